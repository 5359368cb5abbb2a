/- Texts of this proof. -/
import Derived.Test.YtdjoggpacmpfnaaGreatDoorQWire1
import Derived.Test.YtdjoggpacmpfnaaGreatDoorQSpZero
open Go Go.Sp Go.Proofs.Tryz
set_option maxRecDepth 100000
set_option maxHeartbeats 1000000
attribute [local irreducible] obj Own ak
namespace Go.Proofs.YtdjoggpacmpfnaaGreatDoor
theorem UU:kq [] none 0=cz fq++[.slice none 0 0,.int .u64 0,.bool true]:=by
 rw [kq,show feed fq []=fq from rfl];rfl
theorem Zb {r:Fr} (aU:cg r ⟨0,0,none⟩ (cz fq)):aj prog 314 #[] r [] (aF fun v aa=>∃ b,v=.pointer (some ⟨b,0,none⟩)∧aa=[obj b 356 (kq [] none 0)]):=by
 refine aj.of (n:=4) _ rfl func314 rfl rfl rfl fun g hg R hR=>?_;have aU:=aU.mono hg;refine S.seq<|S.region rfl<|O.q 1 rfl<|O.nil<|S.seq<|S.region rfl<|O.op (.p rfl) (.aJ isAgg354 af rfl aU) ?_;refine O.op (.p rfl) (.build (cs:=[_,_,_,_,_,_,_,_,_,_,_]) underlying356 rfl rfl rfl rfl rfl)<|O.aD (.p rfl) (.box (cs:=[_,_,_,_,_,_,_,_,_,_,_]) rfl rfl) ?_;rintro _ _ ⟨b3,rfl,rfl⟩;refine O.q 1 rfl<|O.nil<|S.cH (b:=b3) (cs' :=kq [] none 0) an (by rw [UU];rfl) ?_;exact S.rt results314 rfl hR ⟨b3,rfl,rfl⟩
theorem RW {r:Fr} {b:Nat} {M:List UInt8} {a:Option Addr} {c:Nat} (h:cg r ⟨b,0,none⟩ (kq M a c)) (hl:av ag.u8 r (.slice a (cC M).length c) (cC M)) :
  aj prog 338 #[.pointer (some ⟨b,0,none⟩)] r [] (aF fun v aa=>∃ b' a' c',v=.pointer (some ⟨b',0,none⟩)∧aa=[obj b' 356 (kq M a' c'),ak ag.u8 5 (.slice a' (cC M).length c') (cC M)]):=by
 obtain ⟨x0,x1,bC,c8,cr,dn,dr,dQ,hx,hc⟩:=x5 M a c;have hrl:(cC M).length<128:=by rw [DJ];omega
 have h0:=h;rw [hc] at h;refine aj.of (n:=16) _ rfl func338 rfl rfl rfl fun g hg R hR=>?_;have h:=h.mono hg;have h0:=h0.mono hg;have hl:=hl.mono hg;refine S.seq<|S.region rfl<|O.q 1 rfl<|O.nil<|S.seq<|S.seq<|S.region rfl<|O.q 1 rfl<|O.aN (.p rfl) rfl af rfl rfl ((P4 h0)) ?_;rintro _ _ ⟨rfl,rfl⟩
 try simp only [gB,gC,gD]
 refine O.sT 5 rfl dU ?_;refine O.op (.p rfl) (.not rfl)<|O.nil<|S.pK rfl<|S.skip<|S.seq<|S.region rfl<|O.q 1 rfl<|O.op (.p rfl) (.nilCheck rfl)<|O.op (.p rfl) (.aJ isAgg356 af rfl h) ?_;refine O.aD (.p rfl) (.alloc (cs:=[.int .u64 0,.int .u64 0,.int .u64 0,.int .u64 0,.int .u64 0,.int .u64 0,.int .u64 0,.int .u64 0,.slice none 0 0,.int .u64 0,.bool false]) zeroValue356 rfl) ?_;rintro _ _ ⟨b3,rfl,rfl⟩;refine O.eg rfl (.jM af rfl rfl rfl rfl an oL) ?_;refine O.nil<|S.seq<|S.region rfl<|O.q 1 rfl<|O.op (.p rfl) (.nilCheck rfl)<|O.op (.p rfl) (.fieldAddr vN rfl)<|O.op (.p rfl) (.loadAt k7 rfl (h.drop 8) rfl) ?_;refine O.aN (.p rfl) rfl af rfl rfl ((Lo hl ai)) ?_;rintro _ _ ⟨cS,bE,rfl,rfl⟩
 try simp only [gB,gC,gD]
 refine O.op (.p rfl) (.s7 vN rfl)<|O.eg rfl (.rf k7 rfl rfl yX an oL) ?_;refine O.nil<|S.seq<|S.region rfl<|O.q 1 rfl<|O.nil<|S.cH (b:=b3) (cs' :=kq M cS bE) an (by rw [kq,hx];rfl) ?_;exact S.rt results338 rfl hR ⟨b3,cS,bE,rfl,rfl⟩
theorem K_ (n:Int) (j:Nat) (h:j<8):(be n).take j++[jh n (7 - j)]=(be n).take (j+1):=by
 match j,h with
 |0,_|1,_|2,_|3,_|4,_|5,_|6,_|7,_=>rfl
theorem La (n:Int) (j:Nat) (h:j≤8):((be n).take j).length=j:=by rw [List.length_take,ga];omega
theorem PU {N:Nat} (kO:N<18446744073709551616) {j:Nat} (hj:j<8):Value.int .u8 (IntKind.u8.wrap ((N:Int).fdiv (2 ^ min ((56:Int) - ((8*j:Nat):Int)).toNat IntKind.u64.bits)))=aT (jh (N:Int) (7 - j)):=by
 have:=JU (N:Int) (7 - j) ai ((56:Int) - ((8*j:Nat):Int)) ai;rw [uh kO] at this;rw [this];rfl
theorem Z2 (z:Nat):(128:UInt8)::List.replicate z 0++[0]=128::List.replicate (z+1) 0:=by
 rw [List.cons_append,← List.replicate_succ']
theorem ZR {ws:List cJ} {k:Nat} (h:k<ws.length):pe (ws.take k)++p0 ws[k]=pe (ws.take (k+1)):=by
 rw [List.take_succ_eq_append_getElem h];unfold pe;rw [List.map_append,List.flatten_append];simp
theorem acV {r:Fr} {b:Nat} {M:List UInt8} {a:Option Addr} {c:Nat} (h:cg r ⟨b,0,none⟩ (kq M a c)) (hl:av ag.u8 r (.slice a (cC M).length c) (cC M)) (hK:cg r ⟨1,0,none⟩ (cz gW)) (hm:M.length≤100000000000) :
  aj prog 316 #[.pointer (some ⟨b,0,none⟩)] r [] (aF fun v aa=>∃ a' c',v=.slice a' 64 c' ∧aa=[ak ag.u8 5 (.slice a' 64 c') (sb M)]):=by
 obtain ⟨x0,x1,bC,c8,cr,dn,dr,dQ,hx,hc0⟩:=x5 M a c;clear hx hc0 x0 x1 bC c8 cr dn dr dQ;have wj:(cC M).length=M.length % 128:=DJ M;have V2:lP M.length<128:=by unfold lP;omega
 refine aj.of (n:=73) _ rfl func316 rfl rfl rfl fun g hg R hR=>?_;have h:=h.mono hg;have hl:=hl.mono hg;have hK:=hK.mono hg;refine S.seq<|S.region rfl<|O.q 1 rfl<|O.nil<|S.seq<|S.region rfl<|O.q 1 rfl<|O.aN (.p rfl) rfl af rfl rfl ((RW h hl)) ?_;rintro _ _ ⟨n5,cR,bD,rfl,rfl⟩
 try simp only [gB,gC,gD]
 refine O.q 1 rfl<|O.nil<|S.seq<|S.seq<|S.region rfl<|O.q 1 rfl<|O.op (.p rfl) (.FG underlying336 rfl rfl)<|O.aB 14 rfl dU ?_;refine O.nil<|S.pK rfl<|S.skip (S.seq ?_);obtain ⟨x0,x1,bC,c8,cr,dn,dr,dQ,hx,hc⟩:=x5 M cR bD;refine S.cH (b:=n5) (cs' :=[.int .u64 (x0.toNat:Int),.int .u64 (x1.toNat:Int),.int .u64 (bC.toNat:Int),.int .u64 (c8.toNat:Int),.int .u64 (cr.toNat:Int),.int .u64 (dn.toNat:Int),.int .u64 (dr.toNat:Int),.int .u64 (dQ.toNat:Int),.slice cR (cC M).length bD,.int .u64 (M.length:Int),.bool true]) an hc ?_;refine S.region rfl<|O.q 1 rfl<|O.op (.p rfl) (.nilCheck rfl)<|O.op (.p rfl) (.s7 L1 rfl)<|O.op (.p rfl) (.lo nv) ?_;refine O.op (.p rfl) (.N_ rfl rfl)<|O.slot 19 (v' :=.int .u64 ((8*M.length:Nat):Int)) rfl (by exact congrArg _ (by rw [show (8:Int)*(M.length:Int)=((8*M.length:Nat):Int) from by omega,uh ai])) ?_;refine O.q 1 rfl<|O.nil<|S.seq<|S.region rfl<|O.aD (.p rfl) (.wF (T:=ag.u8) (c:=256) underlying22 cP rfl rfl rfl rfl aq aq) ?_;rintro _ _ ⟨qo,eM,rfl,rfl⟩;refine O.aD (.p rfl) (.bw (T:=ag.u8) (ys:=[128]) underlying22 cP aq rfl rfl ⟨rfl,trivial⟩ aq) ?_;rintro _ _ ⟨dW,cn,rfl,rfl⟩;refine O.aD (.p rfl) (.fH (T:=ag.u8) underlying22 cP aq rfl rfl an an bl bl) ?_;rintro _ _ ⟨cY,bJ,rfl,rfl⟩
 refine O.q 1 rfl<|O.nil<|S.seq<|S.block<|S.i_ (ι:=Nat) (dy:=Option Addr × Nat) (fun z s=>z≤lP M.length) (fun z s=>[(5,.slice s.1 (1+z) s.2)]) [(3,_),(4,_)] (fun z s=>[ak ag.u8 5 (.slice s.1 (1+z) s.2) (128::List.replicate z 0),obj n5 356 [.int .u64 (x0.toNat:Int),.int .u64 (x1.toNat:Int),.int .u64 (bC.toNat:Int),.int .u64 (c8.toNat:Int),.int .u64 (cr.toNat:Int),.int .u64 (dn.toNat:Int),.int .u64 (dr.toNat:Int),.int .u64 (dQ.toNat:Int),.slice cR (cC M).length bD,.int .u64 (M.length:Int),.bool true],ak ag.u8 5 (.slice cR (cC M).length bD) (cC M)]) (fun z s=>lP M.length - z) (0) ((cY,bJ)) aH (.cons rfl (.nil)) (.cons rfl (.cons rfl (.nil))) rfl fun z s hx ih=>?_;have aW:=bS (g:=g);refine S.seq<|S.seq<|S.region rfl<|O.q 1 rfl<|O.op (.p rfl) (.nilCheck rfl)<|O.op (.p rfl) (.s7 vN rfl)<|O.op (.p rfl) (.lo k7) ?_;refine O.op (.p rfl) (.len rfl underlying22 rfl)<|O.q 1 rfl<|O.op (.p rfl) (.len rfl underlying22 rfl)<|O.op (.p rfl) (.add rfl rfl (IntWalk.i64_in _ ai))<|O.op (.p rfl) (.rem rfl rfl ai)<|O.slot 31 (v' :=.int .i64 (((M.length % 128+(1+z)) % 128:Nat):Int)) rfl (by exact congrArg (Value.int .i64) (by rw [wj,Int.tmod_eq_emod_of_nonneg ai];omega)) ?_;refine O.op (.p rfl) (.neq rfl rfl)<|O.nil ?_
 first|refine S.xT rfl (fun zX=>?_) (fun zX=>?_)|refine S.uD rfl (fun zX=>?_) (fun zX=>?_)
 ·have hz:z<lP M.length:=by unfold lP at *;omega
  refine S.skip<|S.block<|S.region rfl<|O.q 1 rfl<|O.aD (.p rfl) (.bw (T:=ag.u8) (ys:=[0]) underlying22 cP aq rfl rfl ⟨rfl,trivial⟩ aq) ?_;rintro _ _ ⟨ni,nq,rfl,rfl⟩;refine O.aD (.p rfl) (.fH (T:=ag.u8) underlying22 cP aq rfl rfl an an bl bl) ?_;rintro _ _ ⟨EO,Fh,rfl,rfl⟩;refine O.q 1 rfl<|O.nil (S.inBlock ?_);rw [Z2];have hlz:(128::List.replicate z (0:UInt8)).length=1+z:=by rw [List.length_cons,List.length_replicate];omega
  simp only [hlz,List.length_singleton];exact S.pw (ih (z+1) ((EO,Fh)) ai ai)
 ·clear ih
  have hz:z=lP M.length:=by unfold lP at *;omega
  subst hz;have hlz:(128::List.replicate (lP M.length) (0:UInt8)).length=1+lP M.length:=by rw [List.length_cons,List.length_replicate];omega
  refine S.exit rfl<|S.seq<|S.region rfl<|O.q 1 rfl<|O.aD (.p rfl) (.Q6 (T:=ag.u8) (a:=(0:UInt8)) (m:=8) underlying22 underlying3 cP aq rfl rfl rfl rfl an (by rw [hlz];omega) (by rw [hlz];omega) (by rw [hlz];omega)) ?_;rintro _ _ ⟨l9,mc,rfl,rfl⟩;refine O.q 1 rfl<|O.nil (S.seq (S.seq ?_));have CX:(128::List.replicate (lP M.length) (0:UInt8)++List.replicate 8 0).length=9+lP M.length:=by rw [List.length_append,hlz,List.length_replicate];omega
  have Hp:pg M.length=128::List.replicate (lP M.length) (0:UInt8)++List.replicate 8 0++be (8*(M.length:Int)):=rfl;rw [show (128::List.replicate (lP M.length) (0:UInt8)).length+8=9+lP M.length from by rw [hlz];omega];generalize 128::List.replicate (lP M.length) (0:UInt8)++List.replicate 8 0=E at CX Hp ⊢;generalize lP M.length=Dy at CX V2 ⊢;refine S.hU (T:=ag.u8) (e:=5) (v' :=.slice l9 (9+Dy) mc) (xs' :=E++(be (8*(M.length:Int))).take 0) an rfl aH ?_;refine S.region rfl<|O.q 1 rfl<|O.nil<|S.block<|S.i_ (ι:=Nat) (dy:=Option Addr × Nat) (fun j s=>j≤8) (fun j s=>[(6,.int .i64 ((56:Int) - ((8*j:Nat):Int))),(5,.slice s.1 (9+Dy+j) s.2)]) [(3,_),(4,_)] (fun j s=>[ak ag.u8 5 (.slice s.1 (9+Dy+j) s.2) (E++(be (8*(M.length:Int))).take j),obj n5 356 [.int .u64 (x0.toNat:Int),.int .u64 (x1.toNat:Int),.int .u64 (bC.toNat:Int),.int .u64 (c8.toNat:Int),.int .u64 (cr.toNat:Int),.int .u64 (dn.toNat:Int),.int .u64 (dr.toNat:Int),.int .u64 (dQ.toNat:Int),.slice cR (cC M).length bD,.int .u64 (M.length:Int),.bool true],ak ag.u8 5 (.slice cR (cC M).length bD) (cC M)]) (fun j s=>8 - j) (0) ((l9,mc)) aH (.cons rfl (.cons rfl (.nil))) (.cons rfl (.cons rfl (.nil))) rfl fun j s hx ih=>?_;have hm2:=bS (g:=g);refine S.seq<|S.seq<|S.region rfl<|O.q 1 rfl<|O.op (.p rfl) (.geq rfl rfl)<|O.nil ?_
  first|refine S.xT rfl (fun z0=>?_) (fun z0=>?_)|refine S.uD rfl (fun z0=>?_) (fun z0=>?_)
  ·have hj:j<8:=by omega
   have dA:=La (8*(M.length:Int)) j ai;refine S.skip<|S.seq<|S.block<|S.region rfl<|O.q 3 rfl<|O.op (.p rfl) (.shr rfl rfl ai)<|O.op (.p rfl) (.iY underlying123 underlying5 rfl)<|O.slot 46 (v' :=aT (jh (8*(M.length:Int)) (7 - j))) rfl (by exact (PU (N:=8*M.length) ai hj).trans (by rw [show ((8*M.length:Nat):Int)=8*(M.length:Int) from by omega])) ?_;refine O.aD (.p rfl) (.bw (T:=ag.u8) (ys:=[jh (8*(M.length:Int)) (7 - j)]) underlying22 cP aq rfl rfl ⟨rfl,trivial⟩ aq) ?_;rintro _ _ ⟨xE,xR,rfl,rfl⟩;refine O.aD (.p rfl) (.fH (T:=ag.u8) underlying22 cP aq rfl rfl an an bl bl) ?_;rintro _ _ ⟨BP,B8,rfl,rfl⟩;refine O.q 1 rfl<|O.nil<|S.inBlock<|S.region rfl<|O.q 1 rfl<|O.op (.p rfl) (.sub rfl rfl (IntWalk.i64_in _ ai))<|O.slot 41 (v' :=.int .i64 ((56:Int) - ((8*(j+1):Nat):Int))) rfl (by exact congrArg (Value.int .i64) ai) ?_;refine O.q 1 rfl<|O.nil ?_;rw [List.append_assoc,K_ _ j hj]
   try simp only [List.length_append,CX,dA,List.length_singleton]
   exact S.pw (ih (j+1) ((BP,B8)) ai ai)
  ·clear ih
   have hj:j=8:=by omega
   subst hj;rw [show (be (8*(M.length:Int))).take 8=be (8*(M.length:Int)) from rfl,← Hp];have As:(pg M.length).length=9+Dy+8:=by rw [Hp,List.length_append,CX,ga]
   rw [← As];refine S.cH (b:=n5) (cs' :=kq M cR bD) an hc.symm ?_;refine S.exit rfl<|S.seq<|S.gH an fun g hs hm hE=>?_;replace hg:=Fr.bQ hg hs;replace hR:=a_ hR hm
   try replace h:=h.mono hs
   try replace hl:=hl.mono hs
   try replace hK:=hK.mono hs
   replace aW:=eT aW hm;replace hm2:=eT hm2 hm;clear hs hm;refine S.region rfl<|O.q 2 rfl<|O.aD (.p rfl) (.bw (T:=ag.cells 1) (ys:=[[.slice s.1 (pg M.length).length s.2]]) underlying28 dH aq rfl rfl ⟨⟨rfl,rfl,by first|(simp;done)|(intro v hv;simp [Value.cells] at hv;rcases hv with rfl|rfl<;>rfl)|(refine List.forall_mem_cons.2 ⟨rfl,?_⟩;repeat (first|exact (fun _ h=>absurd h List.not_mem_nil)|refine List.forall_mem_cons.2 ⟨rfl,?_⟩))⟩,trivial⟩ aq) ?_;rintro _ _ ⟨zm,zB,rfl,rfl⟩;refine O.gH an fun g hs hm Aa=>?_;replace hg:=Fr.bQ hg hs;replace hR:=a_ hR hm
   try replace h:=h.mono hs
   try replace hl:=hl.mono hs
   try replace hK:=hK.mono hs
   try replace hE:=hE.mono hs
   replace aW:=eT aW hm;replace hm2:=eT hm2 hm;clear hs hm;refine O.s3 (.p rfl) rfl af rfl rfl ct (Qm (ps:=[pg M.length]) (av.pZ Aa ⟨⟨_,rfl,hE⟩,trivial⟩ rfl) hK (by simp only [List.flatten_cons,List.flatten_nil,List.append_nil];omega)) ?_;rintro _ _ ⟨mF,mH,rfl,rfl⟩
   try simp only [gB,gC,gD]
   refine O.nil (S.seq ?_);rw [show M++[pg M.length].flatten=M++pg M.length from by simp];refine S.gH an fun g hs hm yh=>?_;replace hg:=Fr.bQ hg hs;replace hR:=a_ hR hm
   try replace h:=h.mono hs
   try replace hl:=hl.mono hs
   try replace hK:=hK.mono hs
   try replace hE:=hE.mono hs
   try replace Aa:=Aa.mono hs
   replace aW:=eT aW hm;replace hm2:=eT hm2 hm;clear hs hm;obtain ⟨y0,y1,rj,rm,Bx,By,Bz,BA,hy,WS⟩:=x5 (M++pg M.length) mF mH;refine S.cH (b:=n5) (cs' :=[.int .u64 (y0.toNat:Int),.int .u64 (y1.toNat:Int),.int .u64 (rj.toNat:Int),.int .u64 (rm.toNat:Int),.int .u64 (Bx.toNat:Int),.int .u64 (By.toNat:Int),.int .u64 (Bz.toNat:Int),.int .u64 (BA.toNat:Int),.slice mF (cC (M++pg M.length)).length mH,.int .u64 ((M++pg M.length).length:Int),.bool true]) an WS ?_;refine S.cy an fun g hs hm An=>?_;replace hg:=Fr.bQ hg hs;replace hR:=a_ hR hm
   try replace h:=h.mono hs
   try replace hl:=hl.mono hs
   try replace hK:=hK.mono hs
   try replace hE:=hE.mono hs
   try replace Aa:=Aa.mono hs
   try replace yh:=yh.mono hs
   replace aW:=eT aW hm;replace hm2:=eT hm2 hm;clear hs hm;have hsum:sb M=pe (feed fq (M++pg M.length)):=rfl;have M4:(feed fq (M++pg M.length)).length=8:=zR _ _ rfl;generalize feed fq (M++pg M.length)=ws at hy M4 hsum;refine S.l_ (T:=ag.u8) (e:=5) ?_;refine S.region rfl<|O.q 1 rfl<|O.nil<|S.seq<|S.seq<|S.region rfl<|O.q 1 rfl<|O.op (.p rfl) (.nilCheck rfl)<|O.op (.p rfl) (.fieldAddr FU rfl)<|O.op (.p rfl) (.aJ (cs:=[_,_,_,_,_,_,_,_]) isAgg354 af rfl (An.take 8)) ?_;refine O.slot 56 (v' :=.agg (cz ws).toArray) rfl (by rw [hy];rfl) ?_;refine O.q 1 rfl<|O.nil<|S.block<|S.i_ (ι:=Nat) (dy:=Option Addr × Nat) (fun k s=>k≤8) (fun k s=>[(57,.int .i64 (k:Int)),(7,.slice s.1 (8*k) s.2)]) [(56,_)] (fun k s=>[ak ag.u8 5 (.slice s.1 (8*k) s.2) (pe (ws.take k))]) (fun k s=>8 - k) (0) ((none,0)) aH (.cons rfl (.cons rfl (.nil))) (.cons rfl (.nil)) rfl fun k s hx ih=>?_;have mP:=bS (g:=g);refine S.seq<|S.region rfl<|O.op (.p rfl) (.lss rfl rfl)<|O.nil (S.seq ?_)
   first|refine S.xT rfl (fun Gb=>?_) (fun Gb=>?_)|refine S.uD rfl (fun Gb=>?_) (fun Gb=>?_)
   ·have hk:k<8:=by omega
    have GS:k<ws.length:=by omega
    have k_:(pe (ws.take k)).length=8*k:=by rw [Jb,List.length_take];omega
    have gy:=ZR GS;refine S.skip<|S.seq<|S.block<|S.seq<|S.region rfl<|O.op (.p rfl) (.Ng (j:=k) underlying354 ia nv rfl rfl rfl ai (by rw [List.getElem?_toArray];exact sq GS)) ?_;refine O.slot 59 (v' :=so ws[k]) rfl (by exact congrArg so (by simp [List.getD_eq_getElem?_getD,GS])) ?_;refine O.q 1 rfl<|O.nil (S.seq ?_);generalize ws[k]=x at gy ⊢;refine S.hU (T:=ag.u8) (e:=5) (v' :=.slice s.1 (8*k+0) s.2) (xs' :=pe (ws.take k)++(p0 x).take 0) an rfl aH ?_;refine S.region rfl<|O.q 1 rfl<|O.nil<|S.block<|S.i_ (ι:=Nat) (dy:=Option Addr × Nat) (fun j u=>j≤8) (fun j u=>[(10,.int .i64 ((56:Int) - ((8*j:Nat):Int))),(7,.slice u.1 (8*k+j) u.2)]) [(9,_),(56,_),(57,_)] (fun j u=>[ak ag.u8 5 (.slice u.1 (8*k+j) u.2) (pe (ws.take k)++(p0 x).take j)]) (fun j u=>8 - j) (0) (s) aH (.cons rfl (.cons rfl (.nil))) (.cons rfl (.cons rfl (.cons rfl (.nil)))) rfl fun j u hx ih=>?_;have vZ:=bS (g:=g);refine S.seq<|S.seq<|S.region rfl<|O.q 1 rfl<|O.op (.p rfl) (.geq rfl rfl)<|O.nil ?_
    first|refine S.xT rfl (fun z2=>?_) (fun z2=>?_)|refine S.uD rfl (fun z2=>?_) (fun z2=>?_)
    ·have hj:j<8:=by omega
     have dA:=La (x.toNat:Int) j ai;have hxl:=x.toNat_lt;have hN:(pe (ws.take k)++(p0 x).take j).length=8*k+j:=by rw [List.length_append,k_,p0,dA]
     refine S.skip<|S.seq<|S.block<|S.region rfl<|O.q 3 rfl<|O.op (.p rfl) (.shr rfl rfl ai)<|O.op (.p rfl) (.iY underlying123 underlying5 rfl)<|O.slot 68 (v' :=aT (jh (x.toNat:Int) (7 - j))) rfl (by exact PU (N:=x.toNat) ai hj) ?_;refine O.aD (.p rfl) (.bw (T:=ag.u8) (ys:=[jh (x.toNat:Int) (7 - j)]) underlying22 cP aq rfl rfl ⟨rfl,trivial⟩ aq) ?_;rintro _ _ ⟨BU,Cc,rfl,rfl⟩;refine O.aD (.p rfl) (.fH (T:=ag.u8) underlying22 cP aq rfl rfl an an bl bl) ?_;rintro _ _ ⟨QT,Rx,rfl,rfl⟩;refine O.q 1 rfl<|O.nil<|S.inBlock<|S.region rfl<|O.q 1 rfl<|O.op (.p rfl) (.sub rfl rfl (IntWalk.i64_in _ ai))<|O.slot 63 (v' :=.int .i64 ((56:Int) - ((8*(j+1):Nat):Int))) rfl (by exact congrArg (Value.int .i64) ai) ?_;refine O.q 1 rfl<|O.nil ?_;rw [List.append_assoc,show (p0 x).take j++[jh (x.toNat:Int) (7 - j)]=(p0 x).take (j+1) from K_ _ j hj]
     try simp only [List.length_append,k_,p0,dA,List.length_singleton]
     exact S.pw (ih (j+1) ((QT,Rx)) ai ai)
    ·clear ih
     have hj:j=8:=by omega
     subst hj;rw [show (p0 x).take 8=p0 x from rfl,gy];refine S.exit rfl<|S.inBlock<|S.region rfl<|O.op (.p rfl) (.add rfl rfl (IntWalk.i64_in _ ai))<|O.q 1 rfl<|O.nil ?_;exact S.pw (ih (k+1) (u) ai ai)
   ·clear ih
    have hk:k=8:=by omega
    subst hk;rw [show ws.take 8=ws from List.take_of_length_le ai,← hsum];refine S.exit rfl<|S.seq<|S.region rfl<|O.q 2 rfl<|O.nil ?_;exact S.rt results316 rfl hR ⟨s.1,s.2,rfl,rfl⟩
theorem PT {r:Fr} {va:Value} {ps:List (List UInt8)} (hp:av (ag.slice ag.u8) r va ps) (aU:cg r ⟨0,0,none⟩ (cz fq)) (hK:cg r ⟨1,0,none⟩ (cz gW)) (hl:ps.flatten.length≤100000000000) :
  aj prog 279 #[va] r [] (aF fun v aa=>∃ a c,v=.slice a 64 c∧aa=[ak ag.u8 5 (.slice a 64 c) (sb ps.flatten)]):=by
 obtain ⟨a1,c1,rfl⟩:=hp.shape;refine aj.of (n:=10) _ rfl func279 rfl rfl rfl fun g hg R hR=>?_;have hp:=hp.mono hg;have aU:=aU.mono hg;have hK:=hK.mono hg;refine S.seq<|S.region rfl<|O.q 1 rfl<|O.nil<|S.seq<|S.region rfl<|O.aN (.p rfl) rfl af rfl rfl ((Zb aU)) ?_;rintro _ _ ⟨b4,rfl,rfl⟩
 try simp only [gB,gC,gD]
 refine O.q 1 rfl<|O.nil<|S.seq<|S.l_ (T:=ag.u8) (e:=5) ?_;refine S.region rfl<|O.q 2 rfl<|O.s3 (.p rfl) rfl af rfl rfl ct (Qm (M:=[]) (a:=none) (c:=0) hp hK (by simp only [List.length_nil];omega)) ?_;rintro _ _ ⟨a7,c9,rfl,rfl⟩
 try simp only [gB,gC,gD]
 refine O.nil<|S.seq<|S.cy an fun g hs hm An=>?_;replace hg:=Fr.bQ hg hs;replace hR:=a_ hR hm
 try replace hp:=hp.mono hs
 try replace aU:=aU.mono hs
 try replace hK:=hK.mono hs
 clear hs hm;refine S.gH an fun g hs hm hlf=>?_;replace hg:=Fr.bQ hg hs;replace hR:=a_ hR hm
 try replace hp:=hp.mono hs
 try replace aU:=aU.mono hs
 try replace hK:=hK.mono hs
 try replace An:=An.mono hs
 clear hs hm;refine S.region rfl<|O.q 1 rfl<|O.aN (.p rfl) rfl af rfl rfl ((acV An hlf hK hl)) ?_;rintro _ _ ⟨a9,bc,rfl,rfl⟩
 try simp only [gB,gC,gD]
 refine O.q 1 rfl<|O.nil ?_;exact S.rt results279 rfl hR ⟨a9,bc,rfl,rfl⟩
theorem adr {g:bp} {be bY:Nat} {x:Value} {z:Int} {dP d_:TypeId} {w:World} {R:Ending→World→Prop} {aa:List az} (hw:ax w g (obj bY dP [x]::obj be d_ [.int .i64 z]::aa)) (hR:∀ w,ax w g (obj bY dP [x]::obj be d_ [.int .i64 z]::aa)→R (.returned (.tuple #[x,.int .i64 z])) w) :
  CallsD prog 317 #[.pointer (some ⟨be,0,none⟩),.pointer (some ⟨bY,0,none⟩)] .returning w (qj prog g bY be 22 39 R):=by
 refine (n9 (R:=fun e w=>(∃ v,e=.returned v)∧ax w g (obj bY dP [x]::obj be d_ [.int .i64 z]::aa)) [.pointer (some ⟨be,0,none⟩),.pointer (some ⟨bY,0,none⟩)] rfl func317 rfl rfl rfl rfl hw ?_).mono ?_
 rotate_left
 ·rintro e u' w' ⟨rfl,⟨v,rfl⟩,h⟩
  exact ⟨⟨v,rfl⟩,rfl,dP,d_,_,_,_,_,aa,h,gi.flat k7,gi.flat qA,hR w' h⟩
 refine S.seq<|S.region rfl<|O.q 1 rfl<|O.op (.p rfl) (.wG underlying20 rfl)<|O.nil<|S.pK rfl<|S.skip<|S.gl results317 fun w hw=>?_;exact ⟨⟨_,rfl⟩,hw⟩
theorem adq {g:bp} {be bY:Nat} {x:Value} {z z' :Int} {dP d_:TypeId} {w:World} {R:Ending→World→Prop} {aa:List az} (hw:ax w g (obj bY dP [x]::obj be d_ [.int .i64 z']::aa))
  (hR:∀ w,ax w g (obj bY dP [.slice none 0 0]::obj be d_ [.int .i64 z]::aa)→R (.returned (.tuple #[.slice none 0 0,.int .i64 z])) w) :
  CallsD prog 317 #[.pointer (some ⟨be,0,none⟩),.pointer (some ⟨bY,0,none⟩)] (.panicking (fJ 39 z)) w (qj prog g bY be 22 39 R):=by
 refine (n9 (R:=fun e w=>(∃ v,e=.returned v)∧ax w g (obj bY dP [.slice none 0 0]::obj be d_ [.int .i64 z]::aa)) [.pointer (some ⟨be,0,none⟩),.pointer (some ⟨bY,0,none⟩)] rfl func317 rfl rfl rfl rfl hw ?_).mono ?_
 rotate_left
 ·rintro e u' w' ⟨rfl,⟨v,rfl⟩,h⟩
  exact ⟨⟨v,rfl⟩,rfl,dP,d_,_,_,_,_,aa,h,gi.flat k7,gi.flat qA,hR w' h⟩
 refine U 3 ?_;refine O.op (.p rfl) (.wH underlying20 rfl)<|U 10 ?_;refine O.op (.p rfl) (.vE underlying39 rfl)<|U 20 ?_;refine O.nil<|S.gl results317 fun w hw=>?_;exact ⟨⟨_,rfl⟩,hw.jr aC⟩
theorem adp {r:Fr} {f:Nat} {first cap:Array Value} {K:Value→List az→Prop} {X:Int→Prop} (hc:ed prog f=true) (vW:(Value.func (.func f) first cap).oneCell' =true) (oW:∀ u ζ,K u ζ→u.oneCell' =true)
  (con:aj prog f (first++#[]++cap) r [] (dg K (fun ch aa=>∃ z,ch=fJ 39 z∧X z∧aa=[]))) :
  aj prog 280 #[.func (.func f) first cap] r [] (aF fun v aa=>(∃ u,K u aa∧v=.tuple #[u,.int .i64 0])∨(∃ z,X z∧aa=[]∧v=.tuple #[.slice none 0 0,.int .i64 z])):=by
 refine aj.of (n:=7) [.func (.func f) first cap] rfl func280 rfl rfl rfl fun g hg R hR=>?_;refine S.seq<|S.region rfl<|O.aD (.p rfl) (.alloc (cs:=[.slice none 0 0]) zeroValue22 rfl) ?_;rintro _ _ ⟨b2,rfl,rfl⟩;refine O.aD (.p rfl) (.alloc (cs:=[.int .i64 0]) zeroValue39 rfl) ?_;rintro _ _ ⟨b3,rfl,rfl⟩;refine U 4 ?_;refine O.defer rfl rfl rfl rfl<|U 4 ?_;refine O.zE (.p rfl) rfl hc rfl rfl (con.sub hg) (fun a ch au w hF hX hW=>by (obtain ⟨z,rfl,hx,rfl⟩:=hX;exact rZ results280 hF rfl rfl aH af (adq (hW.jr aC) fun w hw=>ax.end_ hR hw ⟨_,.inr ⟨z,hx,rfl,rfl⟩,aC⟩))) ?_;rintro v6 _ om;have hone:=oW _ _ om;refine O.perm (List.perm_append_comm) ?_;simp only [List.cons_append,List.nil_append];refine U 2 ?_;refine O.nil<|S.r6 fun a w hf hd hw=>?_;exact rZ results280 hf rfl rfl aH af (adr (hw.jr aC) fun w hw=>ax.end_ hR hw ⟨_,.inl ⟨_,om,rfl⟩,aC⟩)
theorem ado {g:bp} {be bY:Nat} {x:Value} {z:Int} {dP d_:TypeId} {w:World} {R:Ending→World→Prop} {aa:List az} (hw:ax w g (obj bY dP [x]::obj be d_ [.int .i64 z]::aa)) (hR:∀ w,ax w g (obj bY dP [x]::obj be d_ [.int .i64 z]::aa)→R (.returned (.tuple #[x,.int .i64 z])) w) :
  CallsD prog 296 #[.pointer (some ⟨be,0,none⟩),.pointer (some ⟨bY,0,none⟩)] .returning w (qj prog g bY be 22 39 R):=by
 refine (n9 (R:=fun e w=>(∃ v,e=.returned v)∧ax w g (obj bY dP [x]::obj be d_ [.int .i64 z]::aa)) [.pointer (some ⟨be,0,none⟩),.pointer (some ⟨bY,0,none⟩)] rfl func296 rfl rfl rfl rfl hw ?_).mono ?_
 rotate_left
 ·rintro e u' w' ⟨rfl,⟨v,rfl⟩,h⟩
  exact ⟨⟨v,rfl⟩,rfl,dP,d_,_,_,_,_,aa,h,gi.flat k7,gi.flat qA,hR w' h⟩
 refine S.seq<|S.region rfl<|O.q 1 rfl<|O.op (.p rfl) (.wG underlying20 rfl)<|O.nil<|S.pK rfl<|S.skip<|S.gl results296 fun w hw=>?_;exact ⟨⟨_,rfl⟩,hw⟩
theorem adn {g:bp} {be bY:Nat} {x:Value} {z z' :Int} {dP d_:TypeId} {w:World} {R:Ending→World→Prop} {aa:List az} (hw:ax w g (obj bY dP [x]::obj be d_ [.int .i64 z']::aa))
  (hR:∀ w,ax w g (obj bY dP [.slice none 0 0]::obj be d_ [.int .i64 z]::aa)→R (.returned (.tuple #[.slice none 0 0,.int .i64 z])) w) :
  CallsD prog 296 #[.pointer (some ⟨be,0,none⟩),.pointer (some ⟨bY,0,none⟩)] (.panicking (fJ 39 z)) w (qj prog g bY be 22 39 R):=by
 refine (n9 (R:=fun e w=>(∃ v,e=.returned v)∧ax w g (obj bY dP [.slice none 0 0]::obj be d_ [.int .i64 z]::aa)) [.pointer (some ⟨be,0,none⟩),.pointer (some ⟨bY,0,none⟩)] rfl func296 rfl rfl rfl rfl hw ?_).mono ?_
 rotate_left
 ·rintro e u' w' ⟨rfl,⟨v,rfl⟩,h⟩
  exact ⟨⟨v,rfl⟩,rfl,dP,d_,_,_,_,_,aa,h,gi.flat k7,gi.flat qA,hR w' h⟩
 refine U 3 ?_;refine O.op (.p rfl) (.wH underlying20 rfl)<|U 10 ?_;refine O.op (.p rfl) (.vE underlying39 rfl)<|U 20 ?_;refine O.nil<|S.gl results296 fun w hw=>?_;exact ⟨⟨_,rfl⟩,hw.jr aC⟩
theorem adm {r:Fr} {f:Nat} {first cap:Array Value} {K:Value→List az→Prop} {X:Int→Prop} (hc:ed prog f=true) (vW:(Value.func (.func f) first cap).oneCell' =true) (oW:∀ u ζ,K u ζ→u.oneCell' =true)
  (con:aj prog f (first++#[]++cap) r [] (dg K (fun ch aa=>∃ z,ch=fJ 39 z∧X z∧aa=[]))) :
  aj prog 269 #[.func (.func f) first cap] r [] (aF fun v aa=>(∃ u,K u aa∧v=.tuple #[u,.int .i64 0])∨(∃ z,X z∧aa=[]∧v=.tuple #[.slice none 0 0,.int .i64 z])):=by
 refine aj.of (n:=7) [.func (.func f) first cap] rfl func269 rfl rfl rfl fun g hg R hR=>?_;refine S.seq<|S.region rfl<|O.aD (.p rfl) (.alloc (cs:=[.slice none 0 0]) zeroValue22 rfl) ?_;rintro _ _ ⟨b2,rfl,rfl⟩;refine O.aD (.p rfl) (.alloc (cs:=[.int .i64 0]) zeroValue39 rfl) ?_;rintro _ _ ⟨b3,rfl,rfl⟩;refine U 4 ?_;refine O.defer rfl rfl rfl rfl<|U 4 ?_;refine O.zE (.p rfl) rfl hc rfl rfl (con.sub hg) (fun a ch au w hF hX hW=>by (obtain ⟨z,rfl,hx,rfl⟩:=hX;exact rZ results269 hF rfl rfl aH af (adn (hW.jr aC) fun w hw=>ax.end_ hR hw ⟨_,.inr ⟨z,hx,rfl,rfl⟩,aC⟩))) ?_;rintro v6 _ om;have hone:=oW _ _ om;refine O.perm (List.perm_append_comm) ?_;simp only [List.cons_append,List.nil_append];refine U 2 ?_;refine O.nil<|S.r6 fun a w hf hd hw=>?_;exact rZ results269 hf rfl rfl aH af (ado (hw.jr aC) fun w hw=>ax.end_ hR hw ⟨_,.inl ⟨_,om,rfl⟩,aC⟩)
theorem Nh {r:Fr} (x:Int):aj prog 357 #[.int .i64 x] r [] (aF fun v aa=>v=.bool false∧aa=[]):=by
 refine aj.o func357 fun g hg R hR=>?_;refine U 9 ?_;refine O.aB 5 rfl aH<|U 2 ?_;exact S.rt results357 rfl hR ⟨rfl,rfl⟩
theorem Ft {r:Fr} (x y:Int):aj prog 340 #[.int .i64 x,.int .i64 y] r [] (aF fun v aa=>v=.int .i64 (lD x y)∧aa=[]):=by
 refine aj.o func340 fun g hg R hR=>?_;refine U 7 ?_;refine O.v0 (.p rfl) rfl af rfl rfl (Nh _)<|U 5 ?_;refine O.v0 (.p rfl) rfl af rfl rfl (Nh _)<|U 23 ?_;refine S.cd rfl (fun jk=>?_) fun jk=>?_
 ·refine U 4 ?_
  exact S.rt results340 rfl hR ⟨by simp [lD,jk],rfl⟩
 ·refine U 8 ?_
  refine S.cd rfl (fun dz=>?_) fun dz=>?_
  ·refine U 4 ?_
   exact S.rt results340 rfl hR ⟨by simp only [lD];rw [if_neg ai,if_pos ai],rfl⟩
  ·refine U 5 ?_
   exact S.rt results340 rfl hR ⟨by simp only [lD];rw [if_neg ai,if_neg ai],rfl⟩
def rN:List Int→Int
 |[]=>0
 |x::l=>if x≠0 then x else rN l
theorem S0 {l:List Int} {i:Nat} (h:i<l.length):rN (l.drop i)=if l[i]≠0 then l[i] else rN (l.drop (i+1)):=by
 rw [List.drop_eq_getElem_cons h];rfl
theorem RK {r:Fr} {va:Value} {l:List Int} (ha:av ag.i64 r va l):aj prog 339 #[va] r [] (aF fun v aa=>v=.int .i64 (rN l)∧aa=[]):=by
 refine aj.o func339 fun g hg R hR=>?_;have ha:=ha.mono hg;have hbd:=ha.bound;obtain ⟨a1,c1,rfl⟩:=ha.shape;refine U 16 ?_;refine S.ev (ι:=Nat) (fun i=>i≤l.length∧rN (l.drop i)=rN l) (fun i=>[(8,.int .i64 (i:Int))]) [(3,_),(6,_),(7,_)] (fun i=>[]) (fun i=>l.length - i) (0) aH aO aO rfl fun i hx ih=>?_;have aW:=bS (g:=g);obtain ⟨hx1,b8⟩:=hx;refine U 5 ?_;refine S.cd rfl (fun h9=>?_) fun h9=>?_
 ·have hi:i<l.length:=by omega
  rw [S0 hi] at b8;refine U 5 ?_;refine O.c7 (.p rfl) underlying60 PV rfl rfl rfl bq (h:=fun bO Ci nC nE=>?_);obtain ⟨rfl,WU⟩:=nE;refine U 9 ?_;refine S.cd rfl (fun eH=>?_) fun eH=>?_
  ·rw [if_pos eH] at b8
   clear ih;refine U 5 ?_;exact S.rt results339 rfl hR ⟨by rw [b8],rfl⟩
  ·rw [if_neg eH] at b8
   refine U 6 ?_;exact S.cF (ih (i+1) (by exact ⟨by omega,b8⟩) ai)
 ·clear ih
  have hi:i=l.length:=by omega
  subst hi;rw [List.drop_length] at b8;refine U 6 ?_;exact S.rt results339 rfl hR ⟨by rw [← b8];rfl,rfl⟩
theorem RL {r:Fr} {e:TypeId} {va:Value} {l:List Int}:aj prog 339 #[va] r [ak ag.i64 e va l] (aF fun v aa=>v=.int .i64 (rN l)∧aa=[]) :=
 aj.NJ (aa:=[]) (bs:=[_]) fun _ hm hd=>RK (hm.arr.right hd)
theorem Bl {r:Fr} {a b:Int} (d:dB) (h:d=(a,b,())):aj prog 360 #[.agg #[.int .i64 a,.int .i64 b]] r [] (aF fun v aa=>v=.bool (k4 d)∧aa=[]):=by
 subst h;refine aj.o func360 fun g hg R hR=>?_;refine S.seq<|S.region rfl<|O.aD (.p rfl) (.box (cs:=[_,_]) rfl rfl) ?_;rintro _ _ ⟨b1,rfl,rfl⟩;refine U 8 ?_
 refine O.cs 6 rfl (fun h6=>?_) fun h6=>?_
 ·refine U 5 ?_
  refine O.cs 11 rfl (fun h11=>?_) fun h11=>?_
  ·refine U 5 ?_
   refine O.cs 16 rfl (fun jk=>?_) fun jk=>?_
   ·refine U 6 ?_
    exact S.rt results360 rfl hR ⟨congrArg _ (decide_eq_decide.2 (by simp only [true_and,and_true];omega)),rfl⟩
   ·refine U 6 ?_
    exact S.rt results360 rfl hR ⟨congrArg _ (aA ry).symm,rfl⟩
  ·refine U 11 ?_
   exact S.rt results360 rfl hR ⟨congrArg _ (aA ry).symm,rfl⟩
 ·refine U 16 ?_
  exact S.rt results360 rfl hR ⟨congrArg _ (aA ry).symm,rfl⟩
theorem Sj {r:Fr} {va:Value} {v:List dB} (ha:av cU r va v):aj prog 359 #[va] r [] (aF fun u aa=>u=.bool (jd v)∧aa=[]):=by
 refine aj.o func359 fun g hg R hR=>?_;have ha:=ha.mono hg;have hbd:=ha.bound;obtain ⟨a1,c1,rfl⟩:=ha.shape;refine U 12 ?_;refine S.ev (ι:=Nat) (fun k=>k≤v.length∧jd (v.take k)=true) (fun k=>[(7,.int .i64 (k:Int))]) [(0,_),(5,_),(6,_)] (fun k=>[]) (fun k=>v.length - k) (0) sK aO aO rfl fun k hx ih=>?_;have aW:=bS (g:=g);obtain ⟨hx1,b8⟩:=hx;refine U 5 ?_;refine S.cd rfl (fun h8=>?_) fun h8=>?_
 ·have hk:k<v.length:=by omega
  have hst:=Qf hk b8
  by_cases hd:k4 v[k]=true
  ·by_cases h0:k=0
   ·
    refine U 6 ?_;refine O.c7 (.p rfl) underlying370 j8 rfl rfl rfl bq (h:=fun bO Ci nC nE=>?_);obtain ⟨rfl,MG,MI⟩:=cU.open nE;refine O.op (.p rfl) (.aJ isAgg115 af rfl nC) ?_;refine O.aD (.p rfl) (.alloc (cs:=[.int .i64 0,.int .i64 0]) zeroValue115 rfl) ?_;rintro _ _ ⟨b4,rfl,rfl⟩;refine U 2 ?_;refine O.nil<|S.seq<|S.cy an fun g hs hm h4=>?_;replace hg:=bf hg hs;replace hR:=a_ hR hm
    try replace ha:=ha.mono hs
    try replace nC:=nC.mono hs
    try replace nE:=nE.mono hs
    replace aW:=eT aW hm;clear hs hm;refine S.aY (L:=.range 18) F.mixed af ?_;refine .quiet (.p rfl) rfl (fun _=>.aJ isAgg115 af rfl h4) ?_;refine ah.v0 (.p rfl) af rfl af rfl rfl (Bl v[k] rfl) ?_;refine ah.sT 13 rfl (by exact hd) ?_;refine U 4 ?_;refine ah.aB 17 rfl cw ?_;refine U 20 ?_;exact S.jo aW (S.cF (ih (k+1) (by exact ⟨by omega,hst.2 ⟨hd,fun h=>absurd h ai⟩⟩) ai))
   ·have uQ:k - 1<v.length:=by omega
    refine U 6 ?_;refine O.c7 (.p rfl) underlying370 j8 rfl rfl rfl bq (h:=fun bO Ci nC nE=>?_);obtain ⟨rfl,MG,MI⟩:=cU.open nE;refine O.op (.p rfl) (.aJ isAgg115 af rfl nC) ?_;refine O.aD (.p rfl) (.alloc (cs:=[.int .i64 0,.int .i64 0]) zeroValue115 rfl) ?_;rintro _ _ ⟨b4,rfl,rfl⟩;refine U 2 ?_;refine O.nil<|S.seq<|S.cy an fun g hs hm h4=>?_;replace hg:=bf hg hs;replace hR:=a_ hR hm
    try replace ha:=ha.mono hs
    try replace nC:=nC.mono hs
    try replace nE:=nE.mono hs
    replace aW:=eT aW hm;clear hs hm;refine S.aY (L:=.range 18) F.mixed af ?_;refine .quiet (.p rfl) rfl (fun _=>.aJ isAgg115 af rfl h4) ?_;refine ah.v0 (.p rfl) af rfl af rfl rfl (Bl v[k] rfl) ?_;refine ah.sT 13 rfl (by exact hd) ?_;refine U 4 ?_;refine ah.sT 17 rfl cw ?_;refine U 4 ?_;refine ah.c7 (.g rfl rfl) underlying370 j8 rfl rfl (show _=(((k - 1):Nat):Int) by omega) bq (h:=fun b6 R1 VR HA=>?_);obtain ⟨rfl,agv,agD⟩:=cU.open HA;refine U 8 ?_;refine S.cd rfl (fun T4=>?_) fun T4=>?_
    ·refine U 4 ?_
     refine S.ret results359 rfl fun w hw=>ax.end_ hR hw ?_;refine ⟨_,⟨?_,rfl⟩,aC⟩
     congr 1;symm
     refine D7 (i:=k+1) ?_;rw [Bool.eq_false_iff]
     intro e
     have:=(hst.1 e).2 ai
     omega
    ·refine U 6 ?_
     exact S.jo aW (S.cF (ih (k+1) (by exact ⟨by omega,hst.2 ⟨hd,fun _=>by omega⟩⟩) ai))
  ·have ny :k4 v[k]=false:=by simpa using hd
   refine U 6 ?_;refine O.c7 (.p rfl) underlying370 j8 rfl rfl rfl bq (h:=fun bO Ci nC nE=>?_);obtain ⟨rfl,MG,MI⟩:=cU.open nE;refine O.op (.p rfl) (.aJ isAgg115 af rfl nC) ?_;refine O.aD (.p rfl) (.alloc (cs:=[.int .i64 0,.int .i64 0]) zeroValue115 rfl) ?_;rintro _ _ ⟨b4,rfl,rfl⟩;refine U 2 ?_;refine O.nil<|S.seq<|S.cy an fun g hs hm h4=>?_;replace hg:=bf hg hs;replace hR:=a_ hR hm
   try replace ha:=ha.mono hs
   try replace nC:=nC.mono hs
   try replace nE:=nE.mono hs
   replace aW:=eT aW hm;clear hs hm;refine S.aY (L:=.range 18) F.mixed af ?_;refine .quiet (.p rfl) rfl (fun _=>.aJ isAgg115 af rfl h4) ?_;refine ah.v0 (.p rfl) af rfl af rfl rfl (Bl v[k] rfl) ?_;refine ah.aB 13 rfl (by exact ny) ?_;refine U 22 ?_;clear ih;refine S.ret results359 rfl fun w hw=>ax.end_ hR hw ?_;refine ⟨_,⟨?_,rfl⟩,aC⟩
   congr 1;symm
   refine D7 (i:=k+1) ?_;rw [Bool.eq_false_iff]
   intro e
   exact hd (hst.1 e).1
 ·clear ih
  have hk:k=v.length:=by omega
  subst hk;rw [List.take_length] at b8;refine U 5 ?_;exact S.rt results359 rfl hR ⟨by rw [b8],rfl⟩
theorem K4 {r:Fr} {a b c:Int}:aj prog 375 #[.agg #[.int .i64 a,.int .i64 b],.int .i64 c] r [] (aF fun u aa=>u=.int .i64 (lD a c)∧aa=[]):=by
 refine aj.o func375 fun g hg R hR=>?_;refine S.seq<|S.region rfl<|O.aD (.p rfl) (.box (cs:=[_,_]) rfl rfl) ?_;rintro _ _ ⟨b2,rfl,rfl⟩;refine U 6 ?_;refine O.q 1 rfl<|O.v0 (.p rfl) rfl af rfl rfl (Ft _ _)<|U 2 ?_;exact S.rt results375 rfl hR ⟨rfl,rfl⟩
theorem UR {s:Nat} (h:s≤18446744073709551614 / 2):IntKind.i64.wrap ((IntKind.u64.wrap (s:Int)).fdiv (2 ^ min (1:Int).toNat IntKind.u64.bits))=((s / 2:Nat):Int):=by
 have e:IntKind.u64.wrap (s:Int)=(s:Int):=by rw [uj];unfold u64;omega
 rw [e,IntKind.wrap_i64];have:(2:Int) ^ min (1:Int).toNat IntKind.u64.bits=2:=by decide
 rw [this];have h2:(s:Int).fdiv 2=((s / 2:Nat):Int):=by rw [Int.fdiv_eq_ediv_of_nonneg _ ai];omega
 rw [h2];omega
theorem Rp {r:Fr} {va:Value} {v:List dB} (c:Int) (ha:av cU r va v) (hv:vB v) (hl:v.length≤1000000000000):aj prog 374 #[va,.int .i64 c,.func (.func 375) #[] #[]] r []
  (aF fun u aa=>∃ (k:Nat) (b:Bool),u=.tuple #[.int .i64 (k:Int),.bool b]∧k≤v.length∧(b=true→∃ h:k<v.length,v[k].1=c)∧(b=false→∀ i (hi:i<v.length),v[i].1≠c)∧aa=[]):=by
 refine aj.o func374 fun g hg R hR=>?_;have ha:=ha.mono hg;obtain ⟨a1,c1,rfl⟩:=ha.shape;have hlt:∀ i j (hi:i<v.length) (hj:j<v.length),i<j→v[i].1<v[j].1:=fun i j hi hj h=>List.pairwise_iff_getElem.1 hv i j hi hj h;refine U 19 ?_;refine S.i_ (ι:=Nat) (dy:=Nat) (fun i j=>i≤j∧j≤v.length∧(∀ q (hq:q<v.length),q<i→v[q].1<c)∧(∀ q (hq:q<v.length),j≤q→c≤v[q].1)) (fun i j=>[(9,.int .i64 (i:Int)),(10,.int .i64 (j:Int))]) [(0,_),(1,_),(2,_),(8,_)] (fun i j=>[]) (fun i j=>j - i) (0) (v.length) (by exact ⟨by omega,by omega,fun q _ h=>absurd h ai,fun q hq h=>absurd hq ai⟩) aO aO rfl fun i j hx ih=>?_;have aW:=bS (g:=g);obtain ⟨hij,hjl,hlo,hhi⟩:=hx;refine U 7 ?_;refine S.cd rfl (fun j3=>?_) fun j3=>?_
 ·have hm:(i+j) / 2<v.length:=by omega
  have uP:lD v[(i+j) / 2].1 c<0↔v[(i+j) / 2].1<c:=by unfold lD;split<;>(try split)<;>omega
  refine U 7 ?_;refine O.op (.p rfl) (.iY underlying3 underlying59 rfl)<|O.op (.p rfl) (.shr rfl rfl ai)<|O.op (.p rfl) (.iY underlying59 underlying3 rfl)<|O.slot 23 (v' :=.int .i64 (((i+j) / 2:Nat):Int)) rfl (by exact congrArg _ (UR (s:=i+j) ai))<|U 7 ?_;refine O.c7 (.p rfl) underlying370 j8 rfl rfl (show _=((((i+j) / 2):Nat):Int) by omega) bq (h:=fun bX Fy v_ wg=>?_);obtain ⟨rfl,agw,agE⟩:=cU.open wg;refine O.op (.p rfl) (.aJ isAgg115 af rfl v_) ?_;refine O.q 1 rfl<|O.v0 (.p rfl) rfl af rfl rfl (K4)<|U 2 ?_;refine S.cd rfl (fun oU=>?_) fun oU=>?_
  ·have hc:=uP.1 oU
   refine U 6 ?_;exact S.cF (ih ((i+j) / 2+1) (j) (by (refine ⟨by omega,by omega,fun q hq h=>?_,hhi⟩;by_cases e:q=(i+j) / 2;(subst e;exact hc);(have:=hlt q ((i+j) / 2) hq hm ai;omega))) ai)
  ·have hc:c≤v[(i+j) / 2].1:=by have:=mt uP.2 oU;omega
   refine U 5 ?_;exact S.cF (ih (i) ((i+j) / 2) (by (refine ⟨by omega,by omega,hlo,fun q hq h=>?_⟩;by_cases e:q=(i+j) / 2;(subst e;exact hc);(have:=hlt ((i+j) / 2) q hm hq ai;omega))) ai)
 ·clear ih
  have e:i=j:=by omega
  subst e
  by_cases hi:i<v.length
  ·
   have hc:=hhi i hi (Nat.le_refl _);have uP:lD v[i].1 c=0↔v[i].1=c:=by unfold lD;split<;>(try split)<;>omega
   refine U 7 ?_;refine O.sT 38 rfl cw ?_;refine O.q 4 rfl<|O.c7 (.g rfl rfl) underlying370 j8 rfl rfl rfl bq (h:=fun OC Ly Hh Av=>?_);obtain ⟨rfl,agz,agH⟩:=cU.open Av;refine O.op (.g rfl rfl) (.aJ isAgg115 af rfl Hh) ?_;refine O.q 1 rfl<|O.v0 (.g rfl rfl) rfl af rfl rfl (K4)<|U 5 ?_;refine S.kA results374 rfl rfl fun w hw=>ax.end_ hR hw ?_;refine ⟨_,⟨i,_,rfl,hjl,fun hb=>⟨hi,uP.1 (by simpa using hb)⟩,fun hb q hq e=>?_,rfl⟩,aC⟩;have hne:¬ v[i].1=c:=fun e2=>by simp [uP.2 e2] at hb
   rcases Nat.lt_trichotomy q i with h|h|h
   ·have:=hlo q hq h;omega
   ·subst h;exact hne e
   ·have:=hlt i q hi hq h;omega
  ·
   refine U 7 ?_;refine O.aB 38 rfl cw ?_;refine O.q 12 rfl<|O.nil<|S.kA results374 rfl rfl fun w hw=>ax.end_ hR hw ?_;exact pk ⟨i,false,rfl,hjl,fun h=>(by cases h),fun _ q hq e=>by have:=hlo q hq ai;omega,rfl⟩
theorem Q9 {r:Fr} {va:Value} {v:List dB} (c:Int) (ha:av cU r va v) (hv:vB v) (hl:v.length≤1000000000000):aj prog 371 #[va,.int .i64 c] r []
  (aF fun u aa=>∃ (k:Nat) (b:Bool),u=.tuple #[.int .i64 (k:Int),.bool b]∧k≤v.length∧(b=true→∃ h:k<v.length,v[k].1=c)∧(b=false→∀ i (hi:i<v.length),v[i].1≠c)∧aa=[]):=by
 refine aj.o func371 fun g hg R hR=>?_;have ha:=ha.mono hg;refine U 9 ?_;refine O.aN (.p rfl) rfl af rfl rfl (Rp _ bq ay bl) ?_;rintro ey _ ⟨iQ,kf,rfl,Vk,WK,Va,rfl⟩;refine O.q 4 rfl<|O.nil<|S.kA results371 rfl rfl fun w hw=>ax.end_ hR hw ?_;exact pk ⟨iQ,kf,rfl,Vk,WK,Va,rfl⟩
theorem Sb {r:Fr} {va:Value} {v:List dB} {a b:Int} (d:dB) (h:d=(a,b,())) (ha:av cU r va v) (hv:vB v) (hl:v.length≤1000000000000):aj prog 361 #[va,.agg #[.int .i64 a,.int .i64 b]] r []
  (aF fun u aa=>u=.bool (vS v d)∧aa=[]):=by
 subst h;refine aj.o func361 fun g hg R hR=>?_;have ha:=ha.mono hg;obtain ⟨a1,c1,rfl⟩:=ha.shape;refine S.seq<|S.region rfl<|O.aD (.p rfl) (.box (cs:=[_,_]) rfl rfl) ?_;rintro _ _ ⟨b3,rfl,rfl⟩;refine U 7 ?_;refine O.aN (.p rfl) rfl af rfl rfl (Q9 _ bq ay bl) ?_;rintro v11 _ ⟨AF,pH,rfl,agL,WJ,U_,rfl⟩;refine U 7 ?_
 cases pH with
 |true =>
  obtain ⟨hk,hkc⟩:=WJ rfl;refine S.cy an fun g hs hm h3=>?_;replace hg:=bf hg hs;replace hR:=a_ hR hm
  try replace ha:=ha.mono hs
  clear hs hm;refine S.aY (L:=.range 12) F.mixed af ?_;refine ah.q 1 rfl<|ah.sT 14 rfl iu ?_;refine ah.q 3 rfl<|ah.c7 (.g rfl rfl) underlying370 j8 rfl rfl (show _=(((AF):Nat):Int) by omega) bq (h:=fun ja afB ag5 Wh=>?_);obtain ⟨rfl,agt,agB⟩:=cU.open Wh;refine U 8 ?_;exact S.rt results361 rfl hR ⟨by rw [Mp hv hk hkc],rfl⟩
 |false =>
  refine S.cy an fun g hs hm h3=>?_;replace hg:=bf hg hs;replace hR:=a_ hR hm
  try replace ha:=ha.mono hs
  clear hs hm;refine S.aY (L:=.range 12) F.mixed af ?_;refine ah.q 1 rfl<|ah.aB 14 rfl iu ?_;refine U 12 ?_;exact S.rt results361 rfl hR ⟨by rw [UT (U_ rfl)],rfl⟩
theorem sn {r:Fr} {va:Value} {v:List dB} (ha:av cU r va v):aj prog 345 #[va] r [] (aF fun u aa=>u=.bool (jd v)∧aa=[]):=by
 refine aj.o func345 fun g hg R hR=>?_;have ha:=ha.mono hg;refine U 7 ?_;refine O.v0 (.p rfl) rfl af rfl rfl (Sj bq)<|U 2 ?_;exact S.rt results345 rfl hR ⟨rfl,rfl⟩
theorem J4 {r:Fr} {va:Value} {v:List dB} {a b:Int} (d:dB) (h:d=(a,b,())) (ha:av cU r va v):aj prog 347 #[va,.agg #[.int .i64 a,.int .i64 b]] r [] (aF fun u aa=>u=.bool (oX v d)∧aa=[]):=by
 subst h;refine aj.o func347 fun g hg R hR=>?_;have ha:=ha.mono hg
 cases hv:jd v with
 |false =>
  refine S.seq<|S.region rfl<|O.aD (.p rfl) (.box (cs:=[_,_]) rfl rfl) ?_;rintro _ _ ⟨b3,rfl,rfl⟩;refine U 5 ?_;refine O.v0 (.p rfl) rfl af rfl rfl (sn bq) ?_;refine O.aB 6 rfl (by exact hv)<|U 11 ?_;exact S.rt results347 rfl hR ⟨by simp [oX,hv],rfl⟩
 |true =>
  have hr:=(vj.1 hv).2;have hl:=A9 hv
  cases hd:k4 (a,b,()) with
  |false =>
   refine S.seq<|S.region rfl<|O.aD (.p rfl) (.box (cs:=[_,_]) rfl rfl) ?_;rintro _ _ ⟨b3,rfl,rfl⟩;refine U 5 ?_;refine O.v0 (.p rfl) rfl af rfl rfl (sn bq) ?_;refine O.sT 6 rfl (by exact hv)<|U 2 ?_;refine O.v0 (.g rfl rfl) rfl af rfl rfl (Bl _ rfl) ?_;refine O.aB 9 rfl (by exact hd)<|U 8 ?_;exact S.rt results347 rfl hR ⟨by simp [oX,hd],rfl⟩
  |true =>
   refine S.seq<|S.region rfl<|O.aD (.p rfl) (.box (cs:=[_,_]) rfl rfl) ?_;rintro _ _ ⟨b3,rfl,rfl⟩;refine U 5 ?_;refine O.v0 (.p rfl) rfl af rfl rfl (sn bq) ?_;refine O.sT 6 rfl (by exact hv)<|U 2 ?_;refine O.v0 (.g rfl rfl) rfl af rfl rfl (Bl _ rfl) ?_;refine O.sT 9 rfl (by exact hd)<|U 4 ?_;refine O.v0 (.g rfl rfl) rfl af rfl rfl (Sb _ rfl bq ay bl)<|U 3 ?_;exact S.rt results347 rfl hR ⟨by simp [oX,hv,hd],rfl⟩
theorem w4 {r:Fr} {cs:List Value} {x:aV} (h:bu.rel r cs x):aj prog 346 #[.agg cs.toArray] r [] (aF fun v aa=>v=.agg #[.int .i64 x.2.1,.int .i64 x.2.2.1]∧aa=[]):=by
 obtain ⟨v3,iq,v6,rfl,k0,k1,k2,aI,cv,bV⟩:=bu.open h;refine aj.o func346 fun g hg R hR=>?_;refine S.seq<|S.region rfl<|O.aD (.p rfl) (.box (cs:=[_,_,_,_,_,_,_]) rfl rfl) ?_;rintro _ _ ⟨b1,rfl,rfl⟩;refine O.aD (.p rfl) (.alloc (cs:=[.int .i64 0,.int .i64 0]) zeroValue115 rfl) ?_;rintro _ _ ⟨b2,rfl,rfl⟩;refine U 9 ?_;refine O.op (.p rfl) (.build (cs:=[_,_]) underlying115 rfl rfl rfl rfl rfl) ?_;refine U 1 ?_;refine O.nil<|S.mW results346 isAgg115 af rfl an fun w hw=>ax.end_ hR hw ?_;exact pk ⟨rfl,rfl⟩
theorem vm {r:Fr} {cs:List Value} {x:aV} (h:bu.rel r cs x):aj prog 324 #[.agg cs.toArray] r [] (aF fun v aa=>v=.bool (shaped x)∧aa=[]):=by
 obtain ⟨v3,iq,v6,rfl,k0,k1,k2,aI,cv,bV⟩:=bu.open h;refine aj.o func324 fun g hg R hR=>?_;have h:=h.mono hg;have aI:=aI.mono hg;have cv:=cv.mono hg;have bV:=bV.mono hg;obtain ⟨a3,c3,rfl⟩:=aI.shape;obtain ⟨a5,cD,rfl⟩:=cv.shape;obtain ⟨a6,cB,rfl⟩:=bV.shape
 by_cases n1:x.1.length<1
 ·have e:shaped x=false:=by unfold shaped;rw [aA (show ¬ 1≤x.1.length by omega)];rfl
  refine S.seq<|S.region rfl<|O.aD (.p rfl) (.box (cs:=[_,_,_,_,_,_,_]) rfl rfl) ?_;rintro _ _ ⟨b1,rfl,rfl⟩;refine U 12 ?_;refine O.sT 8 rfl cw<|U 9 ?_;exact S.rt results324 rfl hR ⟨by rw [e],rfl⟩
 have e1:1≤x.1.length:=by omega
 by_cases n2:64<x.1.length
 ·have e:shaped x=false:=by unfold shaped;rw [aA (show ¬ x.1.length≤64 by omega)];simp
  refine S.seq<|S.region rfl<|O.aD (.p rfl) (.box (cs:=[_,_,_,_,_,_,_]) rfl rfl) ?_;rintro _ _ ⟨b1,rfl,rfl⟩;refine U 12 ?_;refine O.aB 8 rfl cw<|U 10 ?_;refine O.sT 13 rfl cw<|U 9 ?_;exact S.rt results324 rfl hR ⟨by rw [e],rfl⟩
 have e2:x.1.length≤64:=by omega
 have C9:jd [fP x]=k4 (fP x):=by
  cases hd:k4 (fP x) with
  |true=>rw [vj];exact ⟨fun d q=>by rw [List.mem_singleton.1 q];exact hd,List.pairwise_singleton ..⟩
  |false =>
   rw [Bool.eq_false_iff]
   intro q
   have:=(vj.1 q).1 _ (List.mem_singleton.2 rfl);rw [hd] at this;cases this
 cases cZ:k4 (fP x) with
 |false =>
  have e:shaped x=false:=by unfold shaped;rw [cZ];simp
  refine S.seq<|S.region rfl<|O.aD (.p rfl) (.box (cs:=[_,_,_,_,_,_,_]) rfl rfl) ?_;rintro _ _ ⟨b1,rfl,rfl⟩;refine U 12 ?_;refine O.aB 8 rfl cw<|U 10 ?_;refine O.aB 13 rfl cw<|U 6 ?_;refine O.v0 (.p rfl) rfl af rfl rfl (w4 (by first|assumption|exact ag.rel.mono ay hg)) ?_;refine O.aD (.p rfl) (.bw (T:=cU) (ys:=[fP x]) underlying116 uH aq rfl rfl ⟨cU.mk k1 k2,trivial⟩ aq) ?_;rintro _ _ ⟨b_,bn,rfl,rfl⟩;refine O.gH an fun g hs hm pN=>?_;replace hg:=bf hg hs;replace hR:=a_ hR hm
  try replace h:=h.mono hs
  try replace aI:=aI.mono hs
  try replace cv:=cv.mono hs
  try replace bV:=bV.mono hs
  clear hs hm;refine O.v0 (.p rfl) rfl af rfl rfl (sn bq) ?_;refine O.aB 17 rfl (by rw [C9,cZ]) ?_;refine U 10 ?_;exact S.rt results324 rfl hR ⟨by rw [e],rfl⟩
 |true =>
  cases fV:jd x.2.2.2.1 with
  |false =>
   have e:shaped x=false:=by unfold shaped;rw [fV];simp
   refine S.seq<|S.region rfl<|O.aD (.p rfl) (.box (cs:=[_,_,_,_,_,_,_]) rfl rfl) ?_;rintro _ _ ⟨b1,rfl,rfl⟩;refine U 12 ?_;refine O.aB 8 rfl cw<|U 10 ?_;refine O.aB 13 rfl cw<|U 6 ?_;refine O.v0 (.p rfl) rfl af rfl rfl (w4 (by first|assumption|exact ag.rel.mono ay hg)) ?_;refine O.aD (.p rfl) (.bw (T:=cU) (ys:=[fP x]) underlying116 uH aq rfl rfl ⟨cU.mk k1 k2,trivial⟩ aq) ?_;rintro _ _ ⟨b_,bn,rfl,rfl⟩;refine O.gH an fun g hs hm pN=>?_;replace hg:=bf hg hs;replace hR:=a_ hR hm
   try replace h:=h.mono hs
   try replace aI:=aI.mono hs
   try replace cv:=cv.mono hs
   try replace bV:=bV.mono hs
   clear hs hm;refine O.v0 (.p rfl) rfl af rfl rfl (sn bq) ?_;refine O.sT 17 rfl (by rw [C9,cZ]) ?_;refine U 9 ?_;refine O.v0 (.p rfl) rfl af rfl rfl (sn bq) ?_;refine O.aB 22 rfl (by exact fV) ?_;refine U 10 ?_;exact S.rt results324 rfl hR ⟨by rw [e],rfl⟩
  |true =>
   cases lE:oX x.2.2.2.1 (fP x) with
   |true =>
    have e:shaped x=false:=by unfold shaped;rw [lE];simp
    refine S.seq<|S.region rfl<|O.aD (.p rfl) (.box (cs:=[_,_,_,_,_,_,_]) rfl rfl) ?_;rintro _ _ ⟨b1,rfl,rfl⟩;refine U 12 ?_;refine O.aB 8 rfl cw<|U 10 ?_;refine O.aB 13 rfl cw<|U 6 ?_;refine O.v0 (.p rfl) rfl af rfl rfl (w4 (by first|assumption|exact ag.rel.mono ay hg)) ?_;refine O.aD (.p rfl) (.bw (T:=cU) (ys:=[fP x]) underlying116 uH aq rfl rfl ⟨cU.mk k1 k2,trivial⟩ aq) ?_;rintro _ _ ⟨b_,bn,rfl,rfl⟩;refine O.gH an fun g hs hm pN=>?_;replace hg:=bf hg hs;replace hR:=a_ hR hm
    try replace h:=h.mono hs
    try replace aI:=aI.mono hs
    try replace cv:=cv.mono hs
    try replace bV:=bV.mono hs
    clear hs hm;refine O.v0 (.p rfl) rfl af rfl rfl (sn bq) ?_;refine O.sT 17 rfl (by rw [C9,cZ]) ?_;refine U 9 ?_;refine O.v0 (.p rfl) rfl af rfl rfl (sn bq) ?_;refine O.sT 22 rfl (by exact fV) ?_;refine U 4 ?_;refine S.cy an fun g hs hm qH=>?_;replace hg:=bf hg hs;replace hR:=a_ hR hm
    try replace h:=h.mono hs
    try replace aI:=aI.mono hs
    try replace cv:=cv.mono hs
    try replace bV:=bV.mono hs
    try replace pN:=pN.mono hs
    clear hs hm;refine S.aY (L:=.range 7) F.mixed af ?_;refine U 3 ?_;refine .quiet (.p rfl) rfl (fun _=>.aJ isAgg344 af rfl qH) ?_;refine ah.v0 (.p rfl) af rfl af rfl rfl (w4 (by first|assumption|exact ag.rel.mono ay hg)) ?_;refine ah.v0 (.p rfl) af rfl af rfl rfl (J4 (fP x) rfl bq) ?_;refine ah.sT 29 rfl (by exact lE) ?_;refine U 7 ?_;exact S.rt results324 rfl hR ⟨by rw [e],rfl⟩
   |false =>
    have e:shaped x=(decide (x.2.2.2.2.2.1.length≤1024) && (!x.2.2.2.2.1 ||decide (x.2.2.2.2.2.1.length=0))):=by unfold shaped;rw [zdt e1,zdt e2,cZ,fV,lE];simp
    rw [e] at hR;clear e;refine S.seq<|S.region rfl<|O.aD (.p rfl) (.box (cs:=[_,_,_,_,_,_,_]) rfl rfl) ?_;rintro _ _ ⟨b1,rfl,rfl⟩;refine U 12 ?_;refine O.aB 8 rfl cw ?_;refine U 10 ?_;refine O.aB 13 rfl cw ?_;refine U 6 ?_;refine O.v0 (.p rfl) rfl af rfl rfl (w4 (by first|assumption|exact ag.rel.mono ay hg)) ?_;refine O.aD (.p rfl) (.bw (T:=cU) (ys:=[fP x]) underlying116 uH aq rfl rfl ⟨cU.mk k1 k2,trivial⟩ aq) ?_;rintro _ _ ⟨b_,bn,rfl,rfl⟩;refine O.gH an fun g hs hm pN=>?_;replace hg:=bf hg hs;replace hR:=a_ hR hm
    try replace h:=h.mono hs
    try replace aI:=aI.mono hs
    try replace cv:=cv.mono hs
    try replace bV:=bV.mono hs
    clear hs hm;refine O.v0 (.p rfl) rfl af rfl rfl (sn bq) ?_;refine O.sT 17 rfl (by rw [C9,cZ]) ?_;refine U 9 ?_;refine O.v0 (.p rfl) rfl af rfl rfl (sn bq) ?_;refine O.sT 22 rfl (by exact fV) ?_;refine U 4 ?_;refine S.cy an fun g hs hm qH=>?_;replace hg:=bf hg hs;replace hR:=a_ hR hm
    try replace h:=h.mono hs
    try replace aI:=aI.mono hs
    try replace cv:=cv.mono hs
    try replace bV:=bV.mono hs
    try replace pN:=pN.mono hs
    clear hs hm;refine S.aY (L:=.range 7) F.mixed af ?_;refine U 3 ?_;refine .quiet (.p rfl) rfl (fun _=>.aJ isAgg344 af rfl qH) ?_;refine ah.v0 (.p rfl) af rfl af rfl rfl (w4 (by first|assumption|exact ag.rel.mono ay hg)) ?_;refine ah.v0 (.p rfl) af rfl af rfl rfl (J4 (fP x) rfl bq) ?_;refine ah.aB 29 rfl (by exact lE) ?_;refine U 3 ?_;refine S.skip (S.inBlock (S.seq ?_))
    by_cases qW:1024<x.2.2.2.2.2.1.length
    ·
     refine U 6 ?_;refine O.aB 34 rfl cw<|U 15 ?_;exact S.rt results324 rfl hR ⟨by rw [aA (show ¬ x.2.2.2.2.2.1.length≤1024 by omega)];rfl,rfl⟩
    have xV:x.2.2.2.2.2.1.length≤1024:=by omega
    cases uF:x.2.2.2.2.1 with
    |false =>
     refine U 6 ?_;refine O.sT 34 rfl cw<|U 4 ?_;refine O.slot 38 (v' :=.bool false) rfl (by rw [uF]) ?_;refine O.op (.g rfl rfl) ((by first|exact .pY rfl|exact .not rfl)) ?_;refine O.sT 39 rfl dU<|U 10 ?_;exact S.rt results324 rfl hR ⟨by rw [zdt xV,uF];rfl,rfl⟩
    |true =>
     refine U 6 ?_;refine O.sT 34 rfl cw<|U 4 ?_;refine O.slot 38 (v' :=.bool true) rfl (by rw [uF]) ?_;refine O.op (.g rfl rfl) ((by first|exact .pY rfl|exact .not rfl)) ?_;refine O.aB 39 rfl dU<|U 10 ?_;exact S.rt results324 rfl hR ⟨by rw [zdt xV,uF];simp,rfl⟩
def nQ (x:aV):List (List UInt8):=[[1],bytesOf x.1,be x.2.1,be x.2.2.1,be x.2.2.2.1.length]
def qt (l:List dB):List (List UInt8):=(l.map fun d=>[be d.1,be d.2.1]).flatten
theorem Sd (l:List dB) (d:dB):qt (l++[d])=qt l++[be d.1,be d.2.1]:=by simp [qt]
theorem Sc (l:List dB):(qt l).flatten=iM l:=by
 induction l with
 |nil=>rfl
 |cons d l ih=>rw [FD,← ih];simp [qt]
theorem adB (x:aV):(nQ x++qt x.2.2.2.1++[[kM x.2.2.2.2.1],bytesOf x.2.2.2.2.2.1]).flatten=fY x:=by
 simp [nQ,fY,Sc]
theorem adS {r:Fr} {cs:List Value} {x:aV} (h:bu.rel r cs x) (hs:shaped x=true):aj prog 325 #[.agg cs.toArray] r [] (aF fun v aa=>∃ a c,v=.slice a (fY x).length c∧aa=[ak ag.u8 5 (.slice a (fY x).length c) (fY x)]):=by
 have hb:=oB.1 hs;have hl:=JD hs;have tg:=A9 hb.2.2.2.1;obtain ⟨v3,iq,v6,rfl,k0,k1,k2,aI,cv,bV⟩:=bu.open h;refine aj.o func325 fun g hg R hR=>?_;have h:=h.mono hg;have aI:=aI.mono hg;have cv:=cv.mono hg;have bV:=bV.mono hg;obtain ⟨a3,c3,rfl⟩:=aI.shape;obtain ⟨a5,cD,rfl⟩:=cv.shape;obtain ⟨a6,cB,rfl⟩:=bV.shape;refine S.seq<|S.region rfl<|O.aD (.p rfl) (.box (cs:=[_,_,_,_,_,_,_]) rfl rfl) ?_;rintro _ _ ⟨b1,rfl,rfl⟩;refine U 4 ?_;refine O.aD (.p rfl) (.bw (T:=ag.u8) (ys:=[0]) underlying22 cP aq rfl rfl ⟨rfl,trivial⟩ aq) ?_;rintro _ _ ⟨a7,c9,rfl,rfl⟩;refine U 4 ?_;refine S.qq (fun (q:Option Addr × Nat)=>True) (fun (q:Option Addr × Nat)=>[(3,.slice q.1 1 q.2)]) [(1,_)] (fun (q:Option Addr × Nat)=>[obj b1 344 [.string (str x.1),.int .i64 x.2.1,.int .i64 x.2.2.1,.slice a3 x.2.2.2.1.length c3,.bool x.2.2.2.2.1,.slice a5 x.2.2.2.2.2.1.length cD,.slice a6 x.2.2.2.2.2.2.1.length cB],ak ag.u8 5 (.slice q.1 1 q.2) [kM x.2.2.2.2.1]]) aO (fun key=>?_) (fun q hx=>?_)
 ·have aW:=bS (g:=g)
  refine U 5 ?_;refine S.cd rfl (fun h10=>?_) fun h10=>?_
  ·refine U 2 ?_
   refine O.aD (.p rfl) (.qP (T:=ag.u8) underlying22 fG rfl rfl (show _=(((0):Nat):Int) by omega) an qf) ?_;rintro _ _ ⟨bL,rfl,eS,rfl⟩;refine O.eg rfl (.sj fG rfl eS rfl an qf (show _=_ by rfl:ag.rel _ _ _ ((1:UInt8)))) ?_;refine O.nil<|S.hU (T:=ag.u8) (xs' :=[kM x.2.2.2.2.1]) an rfl (by rw [h10];rfl) ?_;refine S.pk ?_ (S.weaken ?_ (key ((a7,c9)) (by trivial)))
   ·exact aC
   repeat (first|exact Sub.nil|refine Sub.cons rfl ?_)
  ·refine S.skip<|S.hU (T:=ag.u8) (xs' :=[kM x.2.2.2.2.1]) an rfl (by rw [h10];rfl) ?_
   refine S.pk ?_ (S.weaken ?_ (key ((a7,c9)) (by trivial)))
   ·exact aC
   repeat (first|exact Sub.nil|refine Sub.cons rfl ?_)
 ·refine S.seq<|S.cy an fun g hs hm qH=>?_
  replace hg:=bf hg hs;replace hR:=a_ hR hm
  try replace h:=h.mono hs
  try replace aI:=aI.mono hs
  try replace cv:=cv.mono hs
  try replace bV:=bV.mono hs
  clear hs hm;refine S.yJ (L:=[1,2,3,6,7,8,10,11,12,14,15,16,17,0,4,5,9,13,18,19,20]) (fun (s:(Option Addr × Nat) × List Value)=>[(4,.slice s.1.1 s.2.length s.1.2)]) [(1,_),(3,_)] (fun (s:(Option Addr × Nat) × List Value)=>[nc ag.u8 5 s.2 (nQ x),ak ag.val 22 (.slice s.1.1 s.2.length s.1.2) s.2,ak ag.u8 5 (.slice q.1 1 q.2) [kM x.2.2.2.2.1]]) aO F.mixed af (fun kk key=>?_) (fun s=>?_)
  ·refine U 13 ?_
   refine ah.kZ 0 4 [4,5,9,13,18,19,20] [0,5,9,13,18,19,20] af rfl rfl ?_ ?_
   ·refine e3.bw (T:=ag.u8) (ys:=[1]) (.p rfl) af underlying22 cP aq rfl rfl ⟨rfl,trivial⟩ aq (fun dF cj=>?_)
    refine ah.oD (.p rfl) af underlying9 underlying22 underlying5 rfl vt (fun dV cx=>?_);refine ah.dh (.p rfl) af rfl af rfl rfl (bs:=[ak ag.u8 5 (.slice dV x.1.length cx) x.1]) ct (fun m hm hd=>nS (hm.arr.right hd) ai) ?_;rintro _ _ ⟨eE,cN,rfl,rfl⟩;refine ah.aN (.p rfl) af rfl af rfl rfl (ir _) ?_;rintro _ _ ⟨cY,bJ,rfl,rfl⟩;refine ah.aN (.p rfl) af rfl af rfl rfl (ir _) ?_;rintro _ _ ⟨cX,bI,rfl,rfl⟩;refine ah.aN (.p rfl) af rfl af rfl rfl (ir _) ?_;rintro _ _ ⟨jE,jG,rfl,rfl⟩;refine ah.bw (T:=ag.val) (ys:=[_,_,_,_,_]) (.p rfl) af underlying28 dH aq rfl rfl ⟨⟨rfl,rfl⟩,⟨rfl,rfl⟩,⟨rfl,rfl⟩,⟨rfl,rfl⟩,⟨rfl,rfl⟩,trivial⟩ aq (fun ke kj=>?_);refine ah.q 1 rfl<|bt.nil<|S.xW (ak ag.u8 5) (bs:=[.slice dF 1 cj,.slice eE (bytesOf x.1).length cN,.slice cY 8 bJ,.slice cX 8 bI,.slice jE 8 jG]) (ys:=nQ x) ct rfl ?_;refine S.pk ?_ (S.weaken (Sub.app aO aO) (key ((ke,kj),[.slice dF 1 cj,.slice eE (bytesOf x.1).length cN,.slice cY 8 bJ,.slice cX 8 bI,.slice jE 8 jG])))
    try dsimp only
    repeat (first|exact gX|exact gZ|(apply gY;focus (repeat (first|exact fA|apply zt)))|apply g5)
   ·refine e3.oD (.p rfl) af underlying9 underlying22 underlying5 rfl vt (fun dV cx=>?_)
    refine ah.kZ 0 5 [5,9,13,18,19,20] [0,9,13,18,19,20] af rfl rfl ?_ ?_
    ·refine e3.bw (T:=ag.u8) (ys:=[1]) (.p rfl) af underlying22 cP aq rfl rfl ⟨rfl,trivial⟩ aq (fun dF cj=>?_)
     refine ah.dh (.p rfl) af rfl af rfl rfl (bs:=[ak ag.u8 5 (.slice dV x.1.length cx) x.1]) ct (fun m hm hd=>nS (hm.arr.right hd) ai) ?_;rintro _ _ ⟨eE,cN,rfl,rfl⟩;refine ah.aN (.p rfl) af rfl af rfl rfl (ir _) ?_;rintro _ _ ⟨cY,bJ,rfl,rfl⟩;refine ah.aN (.p rfl) af rfl af rfl rfl (ir _) ?_;rintro _ _ ⟨cX,bI,rfl,rfl⟩;refine ah.aN (.p rfl) af rfl af rfl rfl (ir _) ?_;rintro _ _ ⟨jE,jG,rfl,rfl⟩;refine ah.bw (T:=ag.val) (ys:=[_,_,_,_,_]) (.p rfl) af underlying28 dH aq rfl rfl ⟨⟨rfl,rfl⟩,⟨rfl,rfl⟩,⟨rfl,rfl⟩,⟨rfl,rfl⟩,⟨rfl,rfl⟩,trivial⟩ aq (fun ke kj=>?_);refine ah.q 1 rfl<|bt.nil<|S.xW (ak ag.u8 5) (bs:=[.slice dF 1 cj,.slice eE (bytesOf x.1).length cN,.slice cY 8 bJ,.slice cX 8 bI,.slice jE 8 jG]) (ys:=nQ x) ct rfl ?_;refine S.pk ?_ (S.weaken (Sub.app aO aO) (key ((ke,kj),[.slice dF 1 cj,.slice eE (bytesOf x.1).length cN,.slice cY 8 bJ,.slice cX 8 bI,.slice jE 8 jG])))
     try dsimp only
     repeat (first|exact gX|exact gZ|(apply gY;focus (repeat (first|exact fA|apply zt)))|apply g5)
    ·refine e3.dh (.p rfl) af rfl af rfl rfl (bs:=[ak ag.u8 5 (.slice dV x.1.length cx) x.1]) ct (fun m hm hd=>nS (hm.arr.right hd) ai) ?_
     rintro _ _ ⟨eE,cN,rfl,rfl⟩;refine ah.kZ 0 9 [9,13,18,19,20] [0,13,18,19,20] af rfl rfl ?_ ?_
     ·refine e3.bw (T:=ag.u8) (ys:=[1]) (.p rfl) af underlying22 cP aq rfl rfl ⟨rfl,trivial⟩ aq (fun dF cj=>?_)
      refine ah.aN (.p rfl) af rfl af rfl rfl (ir _) ?_;rintro _ _ ⟨cY,bJ,rfl,rfl⟩;refine ah.aN (.p rfl) af rfl af rfl rfl (ir _) ?_;rintro _ _ ⟨cX,bI,rfl,rfl⟩;refine ah.aN (.p rfl) af rfl af rfl rfl (ir _) ?_;rintro _ _ ⟨jE,jG,rfl,rfl⟩;refine ah.bw (T:=ag.val) (ys:=[_,_,_,_,_]) (.p rfl) af underlying28 dH aq rfl rfl ⟨⟨rfl,rfl⟩,⟨rfl,rfl⟩,⟨rfl,rfl⟩,⟨rfl,rfl⟩,⟨rfl,rfl⟩,trivial⟩ aq (fun ke kj=>?_);refine ah.q 1 rfl<|bt.nil<|S.xW (ak ag.u8 5) (bs:=[.slice dF 1 cj,.slice eE (bytesOf x.1).length cN,.slice cY 8 bJ,.slice cX 8 bI,.slice jE 8 jG]) (ys:=nQ x) ct rfl ?_;refine S.pk ?_ (S.weaken (Sub.app aO aO) (key ((ke,kj),[.slice dF 1 cj,.slice eE (bytesOf x.1).length cN,.slice cY 8 bJ,.slice cX 8 bI,.slice jE 8 jG])))
      try dsimp only
      repeat (first|exact gX|exact gZ|(apply gY;focus (repeat (first|exact fA|apply zt)))|apply g5)
     ·refine e3.aN (.p rfl) af rfl af rfl rfl (ir _) ?_
      rintro _ _ ⟨cY,bJ,rfl,rfl⟩;refine ah.kZ 0 13 [13,18,19,20] [0,18,19,20] af rfl rfl ?_ ?_
      ·refine e3.bw (T:=ag.u8) (ys:=[1]) (.p rfl) af underlying22 cP aq rfl rfl ⟨rfl,trivial⟩ aq (fun dF cj=>?_)
       refine ah.aN (.p rfl) af rfl af rfl rfl (ir _) ?_;rintro _ _ ⟨cX,bI,rfl,rfl⟩;refine ah.aN (.p rfl) af rfl af rfl rfl (ir _) ?_;rintro _ _ ⟨jE,jG,rfl,rfl⟩;refine ah.bw (T:=ag.val) (ys:=[_,_,_,_,_]) (.p rfl) af underlying28 dH aq rfl rfl ⟨⟨rfl,rfl⟩,⟨rfl,rfl⟩,⟨rfl,rfl⟩,⟨rfl,rfl⟩,⟨rfl,rfl⟩,trivial⟩ aq (fun ke kj=>?_);refine ah.q 1 rfl<|bt.nil<|S.xW (ak ag.u8 5) (bs:=[.slice dF 1 cj,.slice eE (bytesOf x.1).length cN,.slice cY 8 bJ,.slice cX 8 bI,.slice jE 8 jG]) (ys:=nQ x) ct rfl ?_;refine S.pk ?_ (S.weaken (Sub.app aO aO) (key ((ke,kj),[.slice dF 1 cj,.slice eE (bytesOf x.1).length cN,.slice cY 8 bJ,.slice cX 8 bI,.slice jE 8 jG])))
       try dsimp only
       repeat (first|exact gX|exact gZ|(apply gY;focus (repeat (first|exact fA|apply zt)))|apply g5)
      ·refine e3.aN (.p rfl) af rfl af rfl rfl (ir _) ?_
       rintro _ _ ⟨cX,bI,rfl,rfl⟩;refine ah.kZ 0 18 [18,19,20] [0,19,20] af rfl rfl ?_ ?_
       ·refine e3.bw (T:=ag.u8) (ys:=[1]) (.p rfl) af underlying22 cP aq rfl rfl ⟨rfl,trivial⟩ aq (fun dF cj=>?_)
        refine ah.aN (.p rfl) af rfl af rfl rfl (ir _) ?_;rintro _ _ ⟨jE,jG,rfl,rfl⟩;refine ah.bw (T:=ag.val) (ys:=[_,_,_,_,_]) (.p rfl) af underlying28 dH aq rfl rfl ⟨⟨rfl,rfl⟩,⟨rfl,rfl⟩,⟨rfl,rfl⟩,⟨rfl,rfl⟩,⟨rfl,rfl⟩,trivial⟩ aq (fun ke kj=>?_);refine ah.q 1 rfl<|bt.nil<|S.xW (ak ag.u8 5) (bs:=[.slice dF 1 cj,.slice eE (bytesOf x.1).length cN,.slice cY 8 bJ,.slice cX 8 bI,.slice jE 8 jG]) (ys:=nQ x) ct rfl ?_;refine S.pk ?_ (S.weaken (Sub.app aO aO) (key ((ke,kj),[.slice dF 1 cj,.slice eE (bytesOf x.1).length cN,.slice cY 8 bJ,.slice cX 8 bI,.slice jE 8 jG])))
        try dsimp only
        repeat (first|exact gX|exact gZ|(apply gY;focus (repeat (first|exact fA|apply zt)))|apply g5)
       ·refine e3.aN (.p rfl) af rfl af rfl rfl (ir _) ?_
        rintro _ _ ⟨jE,jG,rfl,rfl⟩;refine ah.bw (T:=ag.u8) (ys:=[1]) (.p rfl) af underlying22 cP aq rfl rfl ⟨rfl,trivial⟩ aq (fun dF cj=>?_);refine ah.bw (T:=ag.val) (ys:=[_,_,_,_,_]) (.p rfl) af underlying28 dH aq rfl rfl ⟨⟨rfl,rfl⟩,⟨rfl,rfl⟩,⟨rfl,rfl⟩,⟨rfl,rfl⟩,⟨rfl,rfl⟩,trivial⟩ aq (fun ke kj=>?_);refine ah.q 1 rfl<|bt.nil<|S.xW (ak ag.u8 5) (bs:=[.slice dF 1 cj,.slice eE (bytesOf x.1).length cN,.slice cY 8 bJ,.slice cX 8 bI,.slice jE 8 jG]) (ys:=nQ x) ct rfl ?_;refine S.pk ?_ (S.weaken (Sub.app aO aO) (key ((ke,kj),[.slice dF 1 cj,.slice eE (bytesOf x.1).length cN,.slice cY 8 bJ,.slice cX 8 bI,.slice jE 8 jG])))
        try dsimp only
        repeat (first|exact gX|exact gZ|(apply gY;focus (repeat (first|exact fA|apply zt)))|apply g5)
  refine S.nu (B:=nc ag.u8 5 s.2 (nQ x)) an (fun _ z=>aZ.len z) fun WE=>?_;refine U 10 ?_;refine S.i_ (ι:=Nat) (dy:=(Option Addr × Nat) × List Value) (fun i p=>i≤x.2.2.2.1.length∧p.2.length=5+2*i) (fun i p=>[(37,.int .i64 (i:Int)),(4,.slice p.1.1 p.2.length p.1.2)]) [(1,_),(3,_),(35,_),(36,_)] (fun i p=>[nc ag.u8 5 p.2 (nQ x++qt (x.2.2.2.1.take i)),ak ag.val 22 (.slice p.1.1 p.2.length p.1.2) p.2,ak ag.u8 5 (.slice q.1 1 q.2) [kM x.2.2.2.2.1]]) (fun i p=>x.2.2.2.1.length - i) (0) (s) (by exact ⟨by simp,WE⟩) aO aO rfl fun i p hx ih=>?_;have aW:=bS (g:=g);obtain ⟨hx1,b8⟩:=hx;refine U 5 ?_;refine S.cd rfl (fun zZ=>?_) fun zZ=>?_
  ·have hi:i<x.2.2.2.1.length:=by omega
   have hrow:nQ x++qt (x.2.2.2.1.take i)++[be x.2.2.2.1[i].1]++[be x.2.2.2.1[i].2.1]=nQ x++qt (x.2.2.2.1.take (i+1)):=by rw [j9 hi,Sd];simp
   refine U 5 ?_;refine O.c7 (.p rfl) underlying116 j8 rfl rfl rfl bq (h:=fun ZV afH Ar HC=>?_);obtain ⟨rfl,agy,agG⟩:=cU.open HC;refine O.op (.p rfl) (.aJ isAgg115 af rfl Ar) ?_;refine O.aD (.p rfl) (.alloc (cs:=[.int .i64 0,.int .i64 0]) zeroValue115 rfl) ?_;rintro _ _ ⟨kG,rfl,rfl⟩;refine U 1 ?_;refine O.nil<|S.cy an fun g hs hm agr=>?_;replace hg:=bf hg hs;replace hR:=a_ hR hm
   try replace h:=h.mono hs
   try replace aI:=aI.mono hs
   try replace cv:=cv.mono hs
   try replace bV:=bV.mono hs
   try replace qH:=qH.mono hs
   try replace Ar:=Ar.mono hs
   try replace HC:=HC.mono hs
   replace aW:=eT aW hm;clear hs hm;refine S.aY (L:=[0,1,2,4,5,3,6,7,8,9]) F.mixed af ?_;refine U 5 ?_;refine ah.aN (.p rfl) af rfl af rfl rfl (ir _) ?_;rintro _ _ ⟨zl,zA,rfl,rfl⟩;refine ah.aN (.p rfl) af rfl af rfl rfl (ir _) ?_;rintro _ _ ⟨xE,xR,rfl,rfl⟩;refine ah.bw (T:=ag.val) (ys:=[_,_]) (.p rfl) af underlying28 dH aq rfl rfl ⟨⟨rfl,rfl⟩,⟨rfl,rfl⟩,trivial⟩ aq (fun BP B8=>?_);refine ah.fH (.p rfl) af (T:=ag.val) underlying28 dH aq rfl rfl an an bl bl (fun rD rI=>?_);refine U 7 ?_;refine S.each (A:=ak ag.u8 5) (bs:=p.2) (b:=.slice zl 8 zA) (a:=be x.2.2.2.1[i].1) an an ?_;refine S.each (A:=ak ag.u8 5) (bs:=p.2++[.slice zl 8 zA]) (b:=.slice xE 8 xR) (a:=be x.2.2.2.1[i].2.1) an an ?_;rw [hrow,kV,← cI];exact S.jo aW (S.pw (ih (i+1) (((rD,rI),p.2++[.slice zl 8 zA,.slice xE 8 xR])) vu ai))
  ·clear ih
   have hi:i=x.2.2.2.1.length:=by omega
   subst hi;rw [List.take_length];have hrow:nQ x++qt x.2.2.2.1++[[kM x.2.2.2.2.1]]++[bytesOf x.2.2.2.2.2.1]=nQ x++qt x.2.2.2.1++[[kM x.2.2.2.2.1],bytesOf x.2.2.2.2.2.1]:=by simp
   have hfl:=adB x;refine U 8 ?_;refine O.aN (.p rfl) rfl af rfl rfl (nS bq bl) ?_;rintro _ _ ⟨BR,B_,rfl,rfl⟩;refine O.aD (.p rfl) (.bw (T:=ag.val) (ys:=[_,_]) underlying28 dH aq rfl rfl ⟨⟨rfl,rfl⟩,⟨rfl,rfl⟩,trivial⟩ aq) ?_;rintro _ _ ⟨rE,rJ,rfl,rfl⟩;refine O.aD (.p rfl) (.fH (T:=ag.val) underlying28 dH aq rfl rfl an an bl bl) ?_;rintro _ _ ⟨BS,Ca,rfl,rfl⟩;refine O.each (A:=ak ag.u8 5) (bs:=p.2) (b:=.slice q.1 1 q.2) (a:=[kM x.2.2.2.2.1]) an an ?_;refine O.each (A:=ak ag.u8 5) (bs:=p.2++[.slice q.1 1 q.2]) (b:=.slice BR (bytesOf x.2.2.2.2.2.1).length B_) (a:=bytesOf x.2.2.2.2.2.1) an an ?_;rw [hrow,kV];refine O.TL an an fun g hs hm hall=>?_;replace hg:=bf hg hs;replace hR:=a_ hR hm
   try replace h:=h.mono hs
   try replace aI:=aI.mono hs
   try replace cv:=cv.mono hs
   try replace bV:=bV.mono hs
   try replace qH:=qH.mono hs
   replace aW:=eT aW hm;clear hs hm;refine O.aN (.p rfl) rfl af rfl rfl ((mz hall (by rw [hfl];omega))) ?_;rintro _ _ ⟨zn,zC,rfl,rfl⟩;refine U 2 ?_;rw [hfl];exact S.rt results325 rfl hR ⟨zn,zC,rfl,rfl⟩
theorem OV {r:Fr} {cs:List Value} {x:aV} (h:bu.rel r cs x):aj prog 286 #[.agg cs.toArray] r [] (aF fun v aa=>v=.bool (fF x)∧aa=[]):=by
 obtain ⟨dM,je,iF,dN,jf,iG,rfl,k0,k1,k2,aI,cv,bV⟩:=bu.sh h;refine aj.o func286 fun g hg R hR=>?_;have h:=h.mono hg;have bV:=bV.mono hg
 cases e:shaped x with
 |false =>
  refine S.seq<|S.region rfl<|O.aD (.p rfl) (.box (cs:=[_,_,_,_,_,_,_]) rfl rfl) ?_;rintro _ _ ⟨b1,rfl,rfl⟩;refine U 5 ?_;refine O.op (.p rfl) (.build (cs:=[_,_,_,_,_,_,_]) underlying344 rfl rfl rfl rfl rfl)<|O.v0 (.p rfl) rfl af rfl rfl (vm h) ?_;refine O.aB 5 rfl (by exact e)<|U 8 ?_;exact S.rt results286 rfl hR ⟨by simp [fF,e],rfl⟩
 |true =>
  refine S.seq<|S.region rfl<|O.aD (.p rfl) (.box (cs:=[_,_,_,_,_,_,_]) rfl rfl) ?_;rintro _ _ ⟨b1,rfl,rfl⟩;refine U 5 ?_;refine O.op (.p rfl) (.build (cs:=[_,_,_,_,_,_,_]) underlying344 rfl rfl rfl rfl rfl)<|O.v0 (.p rfl) rfl af rfl rfl (vm h) ?_;refine O.sT 5 rfl (by exact e)<|U 8 ?_;exact S.rt results286 rfl hR ⟨by simp [fF,e];omega,rfl⟩
theorem aaL {r:Fr} {cs:List Value} {x:aV} (h:bu.rel r cs x) (hs:shaped x=true):aj prog 287 #[.agg cs.toArray] r [] (aF fun v aa=>∃ a c,v=.slice a (fY x).length c∧aa=[ak ag.u8 5 (.slice a (fY x).length c) (fY x)]):=by
 obtain ⟨dM,je,iF,dN,jf,iG,rfl,k0,k1,k2,aI,cv,bV⟩:=bu.sh h;refine aj.o func287 fun g hg R hR=>?_;have h:=h.mono hg;refine S.seq<|S.region rfl<|O.aD (.p rfl) (.box (cs:=[_,_,_,_,_,_,_]) rfl rfl) ?_;rintro _ _ ⟨b1,rfl,rfl⟩;refine U 5 ?_;refine O.op (.p rfl) (.build (cs:=[_,_,_,_,_,_,_]) underlying344 rfl rfl rfl rfl rfl)<|O.aD (.p rfl) (.alloc (cs:=[.string ⟨#[]⟩,.int .i64 0,.int .i64 0,.slice none 0 0,.bool false,.slice none 0 0,.slice none 0 0]) zeroValue344 rfl) ?_;rintro _ _ ⟨b3,rfl,rfl⟩;refine U 6 ?_;refine O.v0 (.p rfl) rfl af rfl rfl (vm h) ?_;refine O.sT 7 rfl (by exact hs) ?_;refine U 7 ?_;refine O.aN (.p rfl) rfl af rfl rfl (adS (by first|assumption|exact ag.rel.mono ay hg) ay) ?_;rintro _ _ ⟨c6,bB,rfl,rfl⟩;refine U 2 ?_;exact S.rt results287 rfl hR ⟨c6,bB,rfl,rfl⟩
def iU (x:aV):List UInt8:=if fF x then cm x else []
def lW (x:aV):Int:=if fF x then 0 else 4
theorem abq (x:aV):(iU x).length≤1400:=by
 unfold iU;split
 ·rename_i h;exact q3 h
 ·simp
theorem Jo {r:Fr} {cs:List Value} {x:aV} (h:bu.rel r cs x):aj prog 243 #[.agg cs.toArray] r [] (aF fun v aa=>∃ a c,v=.tuple #[.slice a (iU x).length c,.int .i64 (lW x)]∧aa=[ak ag.u8 5 (.slice a (iU x).length c) (iU x)]):=by
 obtain ⟨dM,je,iF,dN,jf,iG,rfl,k0,k1,k2,aI,cv,bV⟩:=bu.sh h;refine aj.o func243 fun g hg R hR=>?_;have h:=h.mono hg;have bV:=bV.mono hg
 cases e:fF x with
 |false =>
  have e1:iU x=[]:=by simp [iU,e]
  have e2:lW x=4:=by simp [lW,e]
  rw [e1,e2] at hR;refine S.seq<|S.region rfl<|O.aD (.p rfl) (.box (cs:=[_,_,_,_,_,_,_]) rfl rfl) ?_;rintro _ _ ⟨b1,rfl,rfl⟩;refine U 7 ?_;refine O.v0 (.p rfl) rfl af rfl rfl (OV h) ?_;refine O.aB 5 rfl (by exact e) ?_;refine U 8 ?_;refine S.l_ (T:=ag.u8) (e:=5) ?_;refine S.kA results243 rfl rfl fun w hw=>ax.end_ hR hw ?_;exact pk ⟨none,0,rfl,rfl⟩
 |true =>
  have e1:iU x=cm x:=by simp [iU,e]
  have e2:lW x=0:=by simp [lW,e]
  have hl:=q3 e;obtain ⟨hs,ye⟩:=DH.1 e;have hfl:[fY x,x.2.2.2.2.2.2.1].flatten=cm x:=by simp [cm]
  rw [e1,e2] at hR;refine S.seq<|S.region rfl<|O.aD (.p rfl) (.box (cs:=[_,_,_,_,_,_,_]) rfl rfl) ?_;rintro _ _ ⟨b1,rfl,rfl⟩;refine U 7 ?_;refine O.v0 (.p rfl) rfl af rfl rfl (OV h) ?_;refine O.sT 5 rfl (by exact e) ?_;refine U 5 ?_;refine S.cy an fun g hs hm qH=>?_;replace hg:=bf hg hs;replace hR:=a_ hR hm
  try replace h:=h.mono hs
  try replace bV:=bV.mono hs
  clear hs hm;refine S.aY (L:=[0,2,3,1,4,5,6,7]) F.mixed af ?_;refine .quiet (.p rfl) rfl (fun _=>.aJ isAgg118 af rfl qH) ?_;refine U 2 ?_;refine ah.aN (.p rfl) af rfl af rfl rfl (aaL (by first|assumption|exact ag.rel.mono ay hg) ay) ?_;rintro _ _ ⟨a8,bk,rfl,rfl⟩;refine ah.bw (T:=ag.val) (ys:=[_,_]) (.p rfl) af underlying28 dH aq rfl rfl ⟨⟨rfl,rfl⟩,⟨rfl,rfl⟩,trivial⟩ aq (fun cQ bG=>?_);refine ah.dh (.p rfl) af rfl af rfl rfl (bs:=[ak ag.val 22 (.slice cQ 2 bG) [.slice a8 (fY x).length bk,.slice iF x.2.2.2.2.2.2.1.length iG],ak ag.u8 5 (.slice a8 (fY x).length bk) (fY x)]) ct (fun m hm hd=>mz (xss:=[fY x,x.2.2.2.2.2.2.1]) ((hm.arr.right hd).rows ⟨hm.tail.arr.right hd,bV.left,trivial⟩) (by rw [hfl];omega)) ?_;rintro _ _ ⟨cR,bD,rfl,rfl⟩;refine U 3 ?_;rw [hfl];refine S.kA results243 rfl rfl fun w hw=>ax.end_ hR hw ?_;exact pk ⟨cR,bD,rfl,rfl⟩
theorem aaK {r:Fr} {cs ds:List Value} {x y:aV} (h:bu.rel r cs x) (h' :bu.rel r ds y):aj prog 343 #[.agg cs.toArray,.agg ds.toArray] r [] (aF fun v aa=>v=.bool (over x y)∧aa=[]):=by
 obtain ⟨dM,je,iF,dN,jf,iG,rfl,k0,k1,k2,aI,cv,bV⟩:=bu.sh h;obtain ⟨oF,vo,vp,oG,vq,vr,rfl,l0,l1,l2,l3,ahq,ahr⟩:=bu.sh h';refine aj.o func343 fun g hg R hR=>?_;have h:=h.mono hg;have h' :=h'.mono hg;have aI:=aI.mono hg;refine S.seq<|S.region rfl<|O.aD (.p rfl) (.box (cs:=[_,_,_,_,_,_,_]) rfl rfl) ?_;rintro _ _ ⟨b2,rfl,rfl⟩;refine O.aD (.p rfl) (.box (cs:=[_,_,_,_,_,_,_]) rfl rfl) ?_;rintro _ _ ⟨b3,rfl,rfl⟩;refine U 3 ?_;refine S.cy an fun g hs hm ep=>?_;replace hg:=bf hg hs;replace hR:=a_ hR hm
 try replace h:=h.mono hs
 try replace h' :=h'.mono hs
 try replace aI:=aI.mono hs
 clear hs hm;refine S.cy an fun g hs hm mM=>?_;replace hg:=bf hg hs;replace hR:=a_ hR hm
 try replace h:=h.mono hs
 try replace h' :=h'.mono hs
 try replace aI:=aI.mono hs
 try replace ep:=ep.mono hs
 clear hs hm;refine S.aY (L:=.range 8) F.mixed af ?_;refine .quiet (.p rfl) rfl (fun _=>.aJ isAgg118 af rfl mM) ?_;refine .quiet (.p rfl) rfl (fun _=>.build (cs:=[_,_,_,_,_,_,_]) underlying344 rfl rfl rfl rfl rfl)<|.quiet (.p rfl) rfl (fun _=>.aJ isAgg118 af rfl ep) ?_;refine .quiet (.p rfl) rfl (fun _=>.build (cs:=[_,_,_,_,_,_,_]) underlying344 rfl rfl rfl rfl rfl)<|.lazy rfl af rfl fun iL=>?_;refine .lazy rfl af rfl fun kG=>?_;refine ah.jM rfl af af rfl rfl rfl rfl an oL ?_;refine ah.jM rfl af af rfl rfl rfl rfl an oL ?_;refine bt.nil<|S.seq<|S.cH (b:=iL) (cs' :=[.string (str x.1),.int .i64 x.2.1,.int .i64 x.2.2.1,.slice dM x.2.2.2.1.length dN,.bool x.2.2.2.2.1,.slice je x.2.2.2.2.2.1.length jf,.slice iF x.2.2.2.2.2.2.1.length iG]) an rfl ?_;refine S.cH (b:=kG) (cs' :=[.string (str y.1),.int .i64 y.2.1,.int .i64 y.2.2.1,.slice oF y.2.2.2.1.length oG,.bool y.2.2.2.2.1,.slice vo y.2.2.2.2.2.1.length vq,.slice vp y.2.2.2.2.2.2.1.length vr]) an rfl ?_;refine S.cy an fun g hs hm fE=>?_;replace hg:=bf hg hs;replace hR:=a_ hR hm
 try replace h:=h.mono hs
 try replace h' :=h'.mono hs
 try replace aI:=aI.mono hs
 try replace ep:=ep.mono hs
 try replace mM:=mM.mono hs
 clear hs hm;refine S.cy an fun g hs hm vT=>?_;replace hg:=bf hg hs;replace hR:=a_ hR hm
 try replace h:=h.mono hs
 try replace h' :=h'.mono hs
 try replace aI:=aI.mono hs
 try replace ep:=ep.mono hs
 try replace mM:=mM.mono hs
 try replace fE:=fE.mono hs
 clear hs hm
 by_cases e1:x.1=y.1
 ·cases e2:shaped x with
  |false =>
   refine S.aY (L:=.range 21) F.mixed af ?_;refine U 4 ?_;refine .quiet (.p rfl) rfl (fun _=>.e4 rfl rfl)<|ah.sT 15 rfl (by simp [e1]) ?_;refine ah.q 1 rfl<|.quiet (.g rfl rfl) rfl (fun _=>.aJ isAgg344 af rfl vT) ?_;refine ah.v0 (.g rfl rfl) af rfl af rfl rfl (vm h) ?_;refine ah.aB 18 rfl (by exact e2)<|U 14 ?_;exact S.rt results343 rfl hR ⟨by simp [over,e2],rfl⟩
  |true =>
   cases cZ:shaped y with
   |false =>
    refine S.aY (L:=.range 21) F.mixed af ?_;refine U 4 ?_;refine .quiet (.p rfl) rfl (fun _=>.e4 rfl rfl)<|ah.sT 15 rfl (by simp [e1]) ?_;refine ah.q 1 rfl<|.quiet (.g rfl rfl) rfl (fun _=>.aJ isAgg344 af rfl vT) ?_;refine ah.v0 (.g rfl rfl) af rfl af rfl rfl (vm h) ?_;refine ah.sT 18 rfl (by exact e2) ?_;refine ah.q 2 rfl<|.quiet (.g rfl rfl) rfl (fun _=>.aJ isAgg344 af rfl fE) ?_;refine ah.v0 (.g rfl rfl) af rfl af rfl rfl (vm h') ?_;refine ah.aB 22 rfl (by exact cZ)<|U 10 ?_;exact S.rt results343 rfl hR ⟨by simp [over,cZ],rfl⟩
   |true =>
    refine S.aY (L:=.range 21) F.mixed af ?_;refine U 4 ?_;refine .quiet (.p rfl) rfl (fun _=>.e4 rfl rfl)<|ah.sT 15 rfl (by simp [e1]) ?_;refine ah.q 1 rfl<|.quiet (.g rfl rfl) rfl (fun _=>.aJ isAgg344 af rfl vT) ?_;refine ah.v0 (.g rfl rfl) af rfl af rfl rfl (vm h) ?_;refine ah.sT 18 rfl (by exact e2) ?_;refine ah.q 2 rfl<|.quiet (.g rfl rfl) rfl (fun _=>.aJ isAgg344 af rfl fE) ?_;refine ah.v0 (.g rfl rfl) af rfl af rfl rfl (vm h') ?_;refine ah.sT 22 rfl (by exact cZ)<|U 4 ?_;refine .quiet (.g rfl rfl) rfl (fun _=>.aJ isAgg344 af rfl fE) ?_;refine ah.v0 (.g rfl rfl) af rfl af rfl rfl (w4 h') ?_;refine ah.v0 (.g rfl rfl) af rfl af rfl rfl (J4 (fP y) rfl aI)<|U 3 ?_;exact S.rt results343 rfl hR ⟨by simp [over,e1,e2,cZ],rfl⟩
 ·
  refine S.aY (L:=.range 21) F.mixed af ?_;refine U 4 ?_;refine .quiet (.p rfl) rfl (fun _=>.e4 rfl rfl)<|ah.aB 15 rfl (by simp [e1]) ?_;refine U 17 ?_;exact S.rt results343 rfl hR ⟨by simp [over,e1],rfl⟩
def JV:List PanicEntry:=[{ v:=.iface 39 (.int .i64 4),recovered:=false }]
theorem ud {r:Fr} (b:Bool):aj prog 319 #[.bool b] r [] (dg (fun v aa=>b=true∧v=.tuple #[]∧aa=[]) (fun ch aa=>b=false∧ch=JV∧aa=[])):=by
 refine aj.o func319 fun g hg R hR=>?_;refine U 3 ?_;refine O.op (.p rfl) ((by first|exact .pY rfl|exact .not rfl))<|U 1 ?_;refine S.cd rfl (fun h3=>?_) fun h3=>?_
 ·refine S.region rfl<|O.op (.p rfl) (.Di underlying39 rfl)<|O.panic rfl rfl (fun w hw=>?_)
  exact hR _ [] w ⟨by simpa using h3,rfl,rfl⟩ hw
 ·refine S.skip<|S.gl results319 fun w hw=>hR _ _ w ?_ hw
  exact ⟨by simpa using h3,rfl,rfl⟩
theorem Bh {r:Fr} {cs ds:List Value} {x y:aV} (h:gb.rel r cs x) (h' :gb.rel r ds y):aj prog 320 #[.agg cs.toArray,.agg ds.toArray] r [] (aF fun v aa=>v=.int .i64 (ko x y)∧aa=[]):=by
 obtain ⟨dM,je,iF,Qn,dN,jf,iG,Qo,rfl,_,_⟩:=gb.sh h;obtain ⟨oF,vo,vp,Qr,oG,vq,vr,Qs,rfl,_,_⟩:=gb.sh h';refine aj.o func320 fun g hg R hR=>?_;have ago:=Lq x.2.1 y.2.1;have agp:=Lq x.2.2.1 y.2.2.1;refine S.seq<|S.region rfl<|O.aD (.p rfl) (.box (cs:=[_,_,_,_,_,_,_,_]) rfl rfl) ?_;rintro _ _ ⟨b2,rfl,rfl⟩;refine O.aD (.p rfl) (.box (cs:=[_,_,_,_,_,_,_,_]) rfl rfl) ?_;rintro _ _ ⟨b3,rfl,rfl⟩;refine U 3 ?_;refine S.cy an fun g hs hm ep=>?_;replace hg:=bf hg hs;replace hR:=a_ hR hm;clear hs hm;refine S.cy an fun g hs hm mM=>?_;replace hg:=bf hg hs;replace hR:=a_ hR hm
 try replace ep:=ep.mono hs
 clear hs hm;refine S.aY (L:=[0,1,2,3,4,5,7,8,9,10,11,12,6,13,14,15,16]) F.mixed af ?_;refine U 12 ?_;refine ah.v0 (.p rfl) af rfl af rfl rfl (Ft _ _) ?_;refine ah.v0 (.p rfl) af rfl af rfl rfl (Ft _ _) ?_;refine ah.bw (T:=ag.i64) (ys:=[_,_]) (.p rfl) af underlying60 FF aq rfl rfl ⟨⟨rfl,by first|assumption|(constructor<;>omega)⟩,⟨rfl,by first|assumption|(constructor<;>omega)⟩,trivial⟩ aq (fun eF cO=>?_);refine ah.rK (.p rfl) af rfl af rfl rfl an RL ?_;rintro _ _ ⟨rfl,rfl⟩;refine ah.q 1 rfl<|bt.nil<|S.ret results320 rfl fun w hw=>ax.end_ hR hw ?_;refine ⟨_,⟨congrArg _ ?_,rfl⟩,aC⟩;unfold ko rN rN rN
 split
 ·rfl
 ·split
  ·rfl
  ·rename_i h2;exact (Classical.not_not.1 h2).symm
theorem ab_ {r:Fr} {jN:TypeId} {b:Nat} {va:Value} {xs ys:List aV} (ha:av bu r va ys) (h1:hO xs=true) (hl:xs.length+ys.length≤100000000000) :
  aj prog 318 #[.pointer (some ⟨b,0,none⟩),va] r [g6 r jN 317 5 b xs]
   (dg (fun v aa=>hO (xs++ys)=true∧v=.tuple #[]∧aa=[g6 r jN 317 5 b (xs++ys)]) (fun ch aa=>hO (xs++ys)=false∧ch=JV∧aa=[])):=by
 have uT:=ha;refine aj.o func318 fun g hg R hR=>?_;have ha:=ha.mono hg;obtain ⟨a1,c1,rfl⟩:=ha.shape;refine U 7 ?_;refine S.conv (B:=g6 r jN 317 5 b xs) (C:=g6 r jN 317 5 b (xs++ys.take 0)) an (fun m x=>⟨m,Fr.bH _,by rw [List.take_zero,List.append_nil];exact x⟩) ?_;refine S.ev (ι:=Nat) (fun i=>i≤ys.length∧hO (xs++ys.take i)=true) (fun i=>[(10,.int .i64 (i:Int))]) [(0,_),(8,_),(9,_)] (fun i=>[g6 r jN 317 5 b (xs++ys.take i)]) (fun i=>ys.length - i) (0) (by exact ⟨by simp,by simpa using h1⟩) aO aO rfl fun i hx ih=>?_;have aW:=bS (g:=g);obtain ⟨hx1,b8⟩:=hx;refine U 5 ?_;refine S.cd rfl (fun h11=>?_) fun h11=>?_
 ·have hi:i<ys.length:=by omega
  have hN:xs++ys.take (i+1)=(xs++ys.take i)++[ys[i]]:=by rw [j9 hi,kV]
  have gy:=Ou (x:=ys[i]) b8;rw [← hN] at gy;have MA:hO (xs++ys.take (i+1))=false→hO (xs++ys)=false:=fun q=>by
   rw [Bool.eq_false_iff];intro bg;have:=Dp (xs.length+(i+1)) bg;rw [List.take_append,List.take_of_length_le (Nat.le_add_right _ _),Nat.add_sub_cancel_left,q] at this
   cases this
  have hlen:(xs++ys.take i).length=xs.length+i:=by simp;omega
  generalize hzs:xs++ys.take i=zs at b8 gy hN hlen ⊢;refine U 5 ?_;refine O.ew uT hg (h:=fun bL vH eS tC=>?_);have eZ:=ag.rel.mono tC hg;obtain ⟨lQ,lR,lS,lT,lU,lV,rfl,G2,G4,G7,hH,hJ,hM⟩:=bu.sh eZ;refine O.op (.p rfl) (.aJ isAgg118 af rfl eS) ?_;refine O.aD (.p rfl) (.alloc (cs:=[.string ⟨#[]⟩,.int .i64 0,.int .i64 0,.slice none 0 0,.bool false,.slice none 0 0,.slice none 0 0]) zeroValue118 rfl) ?_;rintro _ _ ⟨iL,rfl,rfl⟩;refine U 5 ?_;refine O.aN (.p rfl) rfl af rfl rfl (Jo (by first|assumption|exact ag.rel.mono ay hg)) ?_;rintro _ _ ⟨b_,bn,rfl,rfl⟩;refine U 7 ?_;refine S.cH (b:=iL) (cs' :=[.string (str ys[i].1),.int .i64 ys[i].2.1,.int .i64 ys[i].2.2.1,.slice lQ ys[i].2.2.2.1.length lT,.bool ys[i].2.2.2.2.1,.slice lR ys[i].2.2.2.2.2.1.length lU,.slice lS ys[i].2.2.2.2.2.2.1.length lV]) an rfl ?_
  cases e:fF ys[i] with
  |false =>
   have hno:hO (xs++ys)=false:=MA (by rw [Bool.eq_false_iff];intro q;have:=(gy.1 q).1;rw [e] at this;cases this);refine S.aY (L:=.range 24) F.mixed af ?_;refine U 2 ?_;refine ah.aB 20 rfl (by simp [lW,e]) ?_;refine ah.q 21 rfl<|ah.cV (.p rfl) af rfl af rfl rfl (ud _) (fun ch au w hX hW=>by (obtain ⟨hb,rfl,rfl⟩:=hX;exact hR _ _ w ⟨hno,rfl,rfl⟩ hW.fU)) ?_;rintro _ _ ⟨oY,rfl,rfl⟩;exact absurd oY aH
  |true =>
   have rM:iU ys[i]=cm ys[i]:=by simp [iU,e]
   rw [rM]
   by_cases h0:zs.length=0
   ·have lg:=gy.2 ⟨e,fun h=>absurd h ai⟩
    refine S.cy an fun g hs hm fE=>?_;replace hg:=bf hg hs;replace hR:=a_ hR hm
    try replace ha:=ha.mono hs
    try replace eS:=eS.mono hs
    try replace eZ:=eZ.mono hs
    try replace hH:=hH.mono hs
    try replace hJ:=hJ.mono hs
    try replace hM:=hM.mono hs
    replace aW:=eT aW hm;clear hs hm;have nA:=hg;have nw:=hR
    try have uN:=ha
    try have C1:=eS
    try have C6:=eZ
    try have CL:=hH
    try have CN:=hJ
    try have CP:=hM
    try have CV:=fE
    refine S.oc (B:=g6 r jN 317 5 b zs) an fun vP ff ⟨AO,qL,qO⟩ mN=>?_;replace hg:=bf hg ff;replace hR:=n6 hR mN
    try replace ha:=ha.mono ff
    try replace eS:=eS.mono ff
    try replace eZ:=eZ.mono ff
    try replace hH:=hH.mono ff
    try replace hJ:=hJ.mono ff
    try replace hM:=hM.mono ff
    try replace fE:=fE.mono ff
    obtain ⟨lz,nO,yd,yc⟩:=g6.read hg qO qL;refine S.aY (L:=.range 24) F.mixed af ?_;refine U 2 ?_;refine ah.sT 20 rfl (by simp [lW,e]) ?_;refine U 7 ?_;refine ah.sT 27 rfl (by exact zdt ai) ?_;refine ah.q 14 rfl<|ah.cV (.p rfl) af rfl af rfl rfl (ud _) (fun ch au w hX hW=>by (exact absurd hX.1 aH)) ?_;rintro _ _ ⟨oY,rfl,rfl⟩;refine bt.nil<|S.back mN ?_;replace hg:=nA;replace hR:=nw
    try replace ha:=uN
    try replace eS:=C1
    try replace eZ:=C6
    try replace hH:=CL
    try replace hJ:=CN
    try replace hM:=CP
    try replace fE:=CV
    clear nA nw;refine S.open (A:=g6 r jN 317 5 b zs) an (fun m x=>x) fun p=>?_;simp only [List.cons_append,List.nil_append];refine S.nu (B:=aZ (px r 5) p.2 zs) an (fun _ z=>aZ.len z) fun nx=>?_;have As:p.2.length≤100000000000:=by omega
    have oh:=hg;have oe:=hR
    try have Ab:=ha
    try have Hf:=eS
    try have Hy:=eZ
    try have Gn:=hH
    try have Gs:=hJ
    try have Gw:=hM
    try have GG:=fE
    refine S.oc (B:=obj b jN [.slice p.1.1 zs.length p.1.2]) an fun go gm ⟨Dk,hmo,tD⟩ og=>?_;replace hg:=bf hg gm;replace hR:=n6 hR og
    try replace ha:=ha.mono gm
    try replace eS:=eS.mono gm
    try replace eZ:=eZ.mono gm
    try replace hH:=hH.mono gm
    try replace hJ:=hJ.mono gm
    try replace hM:=hM.mono gm
    try replace fE:=fE.mono gm
    have UY:=(qY hmo).mono tD;refine S.aY (L:=.range 13) F.mixed af ?_;refine U 5 ?_;refine .quiet (.p rfl) rfl (fun _=>.aJ isAgg118 af rfl fE) ?_;refine ah.q 1 rfl<|.quiet (.p rfl) rfl (fun _=>.build (cs:=[_,_,_,_,_,_,_,_]) underlying317 rfl rfl rfl rfl rfl)<|ah.bw (T:=(ag.cells 8)) (ys:=[_]) (.p rfl) af underlying313 Cw aq rfl rfl ⟨⟨rfl,rfl,by first|(simp;done)|(intro v hv;simp [Value.cells] at hv;rcases hv with rfl|rfl<;>rfl)|(refine List.forall_mem_cons.2 ⟨rfl,?_⟩;repeat (first|exact (fun _ h=>absurd h List.not_mem_nil)|refine List.forall_mem_cons.2 ⟨rfl,?_⟩))⟩,trivial⟩ aq (fun zm zB=>?_);refine ah.fH (.p rfl) af (T:=(ag.cells 8)) underlying313 Cw aq rfl rfl an an bl bl (fun mF mH=>?_);refine U 2 ?_;refine ah.Dc rfl af (fun _ hw=>og hw) FO rfl rfl yX an (by first|(simp;done)|(simp;omega)) ?_;replace hg:=oh;replace hR:=oe
    try replace ha:=Ab
    try replace eS:=Hf
    try replace eZ:=Hy
    try replace hH:=Gn
    try replace hJ:=Gs
    try replace hM:=Gw
    try replace fE:=GG
    clear oh oe;refine U 5 ?_;refine S.hU (T:=ag.cells 8) (e:=317) (v' :=.slice mF (zs++[ys[i]]).length mH) (xs' :=p.2++[[.string (str ys[i].1),.int .i64 ys[i].2.1,.int .i64 ys[i].2.2.1,.slice lQ ys[i].2.2.2.1.length lT,.bool ys[i].2.2.2.2.1,.slice lR ys[i].2.2.2.2.2.1.length lU,.slice lS ys[i].2.2.2.2.2.2.1.length lV,.slice b_ (cm ys[i]).length bn]]) an (by simp [nx]) yY ?_;refine S.cH (b:=b) (cs' :=[.slice mF (zs++[ys[i]]).length mH]) an (by simp [nx]) ?_;refine S.conv (B:=ak ag.u8 5 (.slice b_ (cm ys[i]).length bn) (cm ys[i])) (C:=px r 5 [.string (str ys[i].1),.int .i64 ys[i].2.1,.int .i64 ys[i].2.2.1,.slice lQ ys[i].2.2.2.1.length lT,.bool ys[i].2.2.2.2.1,.slice lR ys[i].2.2.2.2.2.1.length lU,.slice lS ys[i].2.2.2.2.2.2.1.length lV,.slice b_ (cm ys[i]).length bn] ys[i]) an (fun m x=>⟨m,Fr.bH _,[.string (str ys[i].1),.int .i64 ys[i].2.1,.int .i64 ys[i].2.2.1,.slice lQ ys[i].2.2.2.1.length lT,.bool ys[i].2.2.2.2.1,.slice lR ys[i].2.2.2.2.2.1.length lU,.slice lS ys[i].2.2.2.2.2.2.1.length lV],b_,bn,rfl,tC,x⟩) ?_
    refine S.each (A:=px r 5) (bs:=p.2) (b:=[.string (str ys[i].1),.int .i64 ys[i].2.1,.int .i64 ys[i].2.2.1,.slice lQ ys[i].2.2.2.1.length lT,.bool ys[i].2.2.2.2.1,.slice lR ys[i].2.2.2.2.2.1.length lU,.slice lS ys[i].2.2.2.2.2.2.1.length lV,.slice b_ (cm ys[i]).length bn]) (a:=ys[i]) an an ?_;refine S.oS (A:=g6 r jN 317 5 b (zs++[ys[i]])) (bs:=[obj b jN [.slice mF (zs++[ys[i]]).length mH],ak (ag.cells 8) 317 (.slice mF (zs++[ys[i]]).length mH) (p.2++[[.string (str ys[i].1),.int .i64 ys[i].2.1,.int .i64 ys[i].2.2.1,.slice lQ ys[i].2.2.2.1.length lT,.bool ys[i].2.2.2.2.1,.slice lR ys[i].2.2.2.2.2.1.length lU,.slice lS ys[i].2.2.2.2.2.2.1.length lV,.slice b_ (cm ys[i]).length bn]]),aZ (px r 5) (p.2++[[.string (str ys[i].1),.int .i64 ys[i].2.1,.int .i64 ys[i].2.2.1,.slice lQ ys[i].2.2.2.1.length lT,.bool ys[i].2.2.2.2.1,.slice lR ys[i].2.2.2.2.2.1.length lU,.slice lS ys[i].2.2.2.2.2.2.1.length lV,.slice b_ (cm ys[i]).length bn]]) (zs++[ys[i]])]) ct (fun m x=>⟨((mF,mH),p.2++[[.string (str ys[i].1),.int .i64 ys[i].2.1,.int .i64 ys[i].2.2.1,.slice lQ ys[i].2.2.2.1.length lT,.bool ys[i].2.2.2.2.1,.slice lR ys[i].2.2.2.2.2.1.length lU,.slice lS ys[i].2.2.2.2.2.2.1.length lV,.slice b_ (cm ys[i]).length bn]]),x⟩) ?_;rw [← hN];exact S.jo aW (S.pw (ih (i+1) (by exact ⟨by omega,lg⟩) ai))
   ·by_cases hk:ys[i].1=(zs[0]'ai).1
    ·have lg:=gy.2 ⟨e,fun h=>hk⟩
     refine S.cy an fun g hs hm fE=>?_;replace hg:=bf hg hs;replace hR:=a_ hR hm
     try replace ha:=ha.mono hs
     try replace eS:=eS.mono hs
     try replace eZ:=eZ.mono hs
     try replace hH:=hH.mono hs
     try replace hJ:=hJ.mono hs
     try replace hM:=hM.mono hs
     replace aW:=eT aW hm;clear hs hm;have nA:=hg;have nw:=hR
     try have uN:=ha
     try have C1:=eS
     try have C6:=eZ
     try have CL:=hH
     try have CN:=hJ
     try have CP:=hM
     try have CV:=fE
     refine S.oc (B:=g6 r jN 317 5 b zs) an fun vP ff ⟨AO,qL,qO⟩ mN=>?_;replace hg:=bf hg ff;replace hR:=n6 hR mN
     try replace ha:=ha.mono ff
     try replace eS:=eS.mono ff
     try replace eZ:=eZ.mono ff
     try replace hH:=hH.mono ff
     try replace hJ:=hJ.mono ff
     try replace hM:=hM.mono ff
     try replace fE:=fE.mono ff
     obtain ⟨lz,nO,yd,yc⟩:=g6.read hg qO qL;refine S.aY (L:=.range 24) F.mixed af ?_;refine U 2 ?_;refine ah.sT 20 rfl (by simp [lW,e]) ?_;refine U 7 ?_;refine ah.aB 27 rfl (by exact aA ai) ?_;refine U 5 ?_;refine ah.c7 (.g rfl rfl) underlying313 vh rfl rfl (show _=(((0):Nat):Int) by omega) bq (h:=fun A1 zI Aq qN=>?_);obtain ⟨WY,W1,W4,W7,W_,Xc,Xf,Xi,rfl,Wl,UP⟩:=gb.sh qN;refine U 5 ?_;refine .quiet (.g rfl rfl) rfl (fun _=>.e4 rfl rfl)<|ah.sT 39 rfl (by simp [hk]) ?_;refine ah.q 2 rfl<|ah.cV (.p rfl) af rfl af rfl rfl (ud _) (fun ch au w hX hW=>by (exact absurd hX.1 aH)) ?_;rintro _ _ ⟨oY,rfl,rfl⟩;refine bt.nil<|S.back mN ?_;replace hg:=nA;replace hR:=nw
     try replace ha:=uN
     try replace eS:=C1
     try replace eZ:=C6
     try replace hH:=CL
     try replace hJ:=CN
     try replace hM:=CP
     try replace fE:=CV
     clear nA nw;refine S.open (A:=g6 r jN 317 5 b zs) an (fun m x=>x) fun p=>?_;simp only [List.cons_append,List.nil_append];refine S.nu (B:=aZ (px r 5) p.2 zs) an (fun _ z=>aZ.len z) fun nx=>?_;have As:p.2.length≤100000000000:=by omega
     have oh:=hg;have oe:=hR
     try have Ab:=ha
     try have Hf:=eS
     try have Hy:=eZ
     try have Gn:=hH
     try have Gs:=hJ
     try have Gw:=hM
     try have GG:=fE
     refine S.oc (B:=obj b jN [.slice p.1.1 zs.length p.1.2]) an fun go gm ⟨Dk,hmo,tD⟩ og=>?_;replace hg:=bf hg gm;replace hR:=n6 hR og
     try replace ha:=ha.mono gm
     try replace eS:=eS.mono gm
     try replace eZ:=eZ.mono gm
     try replace hH:=hH.mono gm
     try replace hJ:=hJ.mono gm
     try replace hM:=hM.mono gm
     try replace fE:=fE.mono gm
     have UY:=(qY hmo).mono tD;refine S.aY (L:=.range 13) F.mixed af ?_;refine U 5 ?_;refine .quiet (.p rfl) rfl (fun _=>.aJ isAgg118 af rfl fE) ?_;refine ah.q 1 rfl<|.quiet (.p rfl) rfl (fun _=>.build (cs:=[_,_,_,_,_,_,_,_]) underlying317 rfl rfl rfl rfl rfl)<|ah.bw (T:=(ag.cells 8)) (ys:=[_]) (.p rfl) af underlying313 Cw aq rfl rfl ⟨⟨rfl,rfl,by first|(simp;done)|(intro v hv;simp [Value.cells] at hv;rcases hv with rfl|rfl<;>rfl)|(refine List.forall_mem_cons.2 ⟨rfl,?_⟩;repeat (first|exact (fun _ h=>absurd h List.not_mem_nil)|refine List.forall_mem_cons.2 ⟨rfl,?_⟩))⟩,trivial⟩ aq (fun zm zB=>?_);refine ah.fH (.p rfl) af (T:=(ag.cells 8)) underlying313 Cw aq rfl rfl an an bl bl (fun mF mH=>?_);refine U 2 ?_;refine ah.Dc rfl af (fun _ hw=>og hw) FO rfl rfl yX an (by first|(simp;done)|(simp;omega)) ?_;replace hg:=oh;replace hR:=oe
     try replace ha:=Ab
     try replace eS:=Hf
     try replace eZ:=Hy
     try replace hH:=Gn
     try replace hJ:=Gs
     try replace hM:=Gw
     try replace fE:=GG
     clear oh oe;refine U 5 ?_;refine S.hU (T:=ag.cells 8) (e:=317) (v' :=.slice mF (zs++[ys[i]]).length mH) (xs' :=p.2++[[.string (str ys[i].1),.int .i64 ys[i].2.1,.int .i64 ys[i].2.2.1,.slice lQ ys[i].2.2.2.1.length lT,.bool ys[i].2.2.2.2.1,.slice lR ys[i].2.2.2.2.2.1.length lU,.slice lS ys[i].2.2.2.2.2.2.1.length lV,.slice b_ (cm ys[i]).length bn]]) an (by simp [nx]) yY ?_;refine S.cH (b:=b) (cs' :=[.slice mF (zs++[ys[i]]).length mH]) an (by simp [nx]) ?_;refine S.conv (B:=ak ag.u8 5 (.slice b_ (cm ys[i]).length bn) (cm ys[i])) (C:=px r 5 [.string (str ys[i].1),.int .i64 ys[i].2.1,.int .i64 ys[i].2.2.1,.slice lQ ys[i].2.2.2.1.length lT,.bool ys[i].2.2.2.2.1,.slice lR ys[i].2.2.2.2.2.1.length lU,.slice lS ys[i].2.2.2.2.2.2.1.length lV,.slice b_ (cm ys[i]).length bn] ys[i]) an (fun m x=>⟨m,Fr.bH _,[.string (str ys[i].1),.int .i64 ys[i].2.1,.int .i64 ys[i].2.2.1,.slice lQ ys[i].2.2.2.1.length lT,.bool ys[i].2.2.2.2.1,.slice lR ys[i].2.2.2.2.2.1.length lU,.slice lS ys[i].2.2.2.2.2.2.1.length lV],b_,bn,rfl,tC,x⟩) ?_
     refine S.each (A:=px r 5) (bs:=p.2) (b:=[.string (str ys[i].1),.int .i64 ys[i].2.1,.int .i64 ys[i].2.2.1,.slice lQ ys[i].2.2.2.1.length lT,.bool ys[i].2.2.2.2.1,.slice lR ys[i].2.2.2.2.2.1.length lU,.slice lS ys[i].2.2.2.2.2.2.1.length lV,.slice b_ (cm ys[i]).length bn]) (a:=ys[i]) an an ?_;refine S.oS (A:=g6 r jN 317 5 b (zs++[ys[i]])) (bs:=[obj b jN [.slice mF (zs++[ys[i]]).length mH],ak (ag.cells 8) 317 (.slice mF (zs++[ys[i]]).length mH) (p.2++[[.string (str ys[i].1),.int .i64 ys[i].2.1,.int .i64 ys[i].2.2.1,.slice lQ ys[i].2.2.2.1.length lT,.bool ys[i].2.2.2.2.1,.slice lR ys[i].2.2.2.2.2.1.length lU,.slice lS ys[i].2.2.2.2.2.2.1.length lV,.slice b_ (cm ys[i]).length bn]]),aZ (px r 5) (p.2++[[.string (str ys[i].1),.int .i64 ys[i].2.1,.int .i64 ys[i].2.2.1,.slice lQ ys[i].2.2.2.1.length lT,.bool ys[i].2.2.2.2.1,.slice lR ys[i].2.2.2.2.2.1.length lU,.slice lS ys[i].2.2.2.2.2.2.1.length lV,.slice b_ (cm ys[i]).length bn]]) (zs++[ys[i]])]) ct (fun m x=>⟨((mF,mH),p.2++[[.string (str ys[i].1),.int .i64 ys[i].2.1,.int .i64 ys[i].2.2.1,.slice lQ ys[i].2.2.2.1.length lT,.bool ys[i].2.2.2.2.1,.slice lR ys[i].2.2.2.2.2.1.length lU,.slice lS ys[i].2.2.2.2.2.2.1.length lV,.slice b_ (cm ys[i]).length bn]]),x⟩) ?_;rw [← hN];exact S.jo aW (S.pw (ih (i+1) (by exact ⟨by omega,lg⟩) ai))
    ·have hno:hO (xs++ys)=false:=MA (by rw [Bool.eq_false_iff];intro q;exact hk ((gy.1 q).2 ai))
     refine S.cy an fun g hs hm fE=>?_;replace hg:=bf hg hs;replace hR:=a_ hR hm
     try replace ha:=ha.mono hs
     try replace eS:=eS.mono hs
     try replace eZ:=eZ.mono hs
     try replace hH:=hH.mono hs
     try replace hJ:=hJ.mono hs
     try replace hM:=hM.mono hs
     replace aW:=eT aW hm;clear hs hm;have nA:=hg;have nw:=hR
     try have uN:=ha
     try have C1:=eS
     try have C6:=eZ
     try have CL:=hH
     try have CN:=hJ
     try have CP:=hM
     try have CV:=fE
     refine S.oc (B:=g6 r jN 317 5 b zs) an fun vP ff ⟨AO,qL,qO⟩ mN=>?_;replace hg:=bf hg ff;replace hR:=n6 hR mN
     try replace ha:=ha.mono ff
     try replace eS:=eS.mono ff
     try replace eZ:=eZ.mono ff
     try replace hH:=hH.mono ff
     try replace hJ:=hJ.mono ff
     try replace hM:=hM.mono ff
     try replace fE:=fE.mono ff
     obtain ⟨lz,nO,yd,yc⟩:=g6.read hg qO qL;refine S.aY (L:=.range 24) F.mixed af ?_;refine U 2 ?_;refine ah.sT 20 rfl (by simp [lW,e]) ?_;refine U 7 ?_;refine ah.aB 27 rfl (by exact aA ai) ?_;refine U 5 ?_;refine ah.c7 (.g rfl rfl) underlying313 vh rfl rfl (show _=(((0):Nat):Int) by omega) bq (h:=fun A1 zI Aq qN=>?_);obtain ⟨WY,W1,W4,W7,W_,Xc,Xf,Xi,rfl,Wl,UP⟩:=gb.sh qN;refine U 5 ?_;refine .quiet (.g rfl rfl) rfl (fun _=>.e4 rfl rfl)<|ah.aB 39 rfl (by simp;exact fun q=>hk q.symm) ?_;refine ah.q 2 rfl<|ah.cV (.p rfl) af rfl af rfl rfl (ud _) (fun ch au w hX hW=>by (obtain ⟨hb,rfl,rfl⟩:=hX;exact hR _ _ w ⟨hno,rfl,rfl⟩ hW.fU)) ?_;rintro _ _ ⟨oY,rfl,rfl⟩;exact absurd oY aH
 ·clear ih
  have hi:i=ys.length:=by omega
  subst hi;rw [List.take_length] at b8 ⊢;refine S.exit rfl<|S.gl results318 fun w hw=>ax.end_ hR hw ?_;exact pk ⟨b8,rfl,rfl⟩
end Go.Proofs.YtdjoggpacmpfnaaGreatDoor
