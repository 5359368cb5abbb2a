/- Texts of this proof. -/
import Derived.Test.YtojafegjlahajaaGreatDoorQWire1
import Derived.Test.YtojafegjlahajaaGreatDoorQSpZero
open Go Go.Sp Go.Proofs.Tryz
set_option maxRecDepth 100000
set_option maxHeartbeats 1000000
attribute [local irreducible] obj Own OwnP
namespace Go.Proofs.YtojafegjlahajaaGreatDoor
theorem hashC_nil:hashC [] none 0=w64s shaH++[.slice none 0 0,.int .u64 0,.bool true]:=by
 rw [hashC,show feed shaH []=shaH from rfl];rfl
theorem new_c {r:Fr} (hH:At r ⟨0,0,none⟩ (w64s shaH)):Con prog 126 #[] r [] (Ret fun v η=>∃ b,v=.pointer (some ⟨b,0,none⟩)∧η=[obj b 278 (hashC [] none 0)]):=by
 refine Con.of (n:=4) _ rfl func126 rfl rfl rfl fun g hg R hR=>?_;have hH:=hH.mono hg;refine S.seq<|S.region rfl<|O.q 1 rfl<|O.nil<|S.seq<|S.region rfl<|O.op (.p rfl) (.loadAgg isAgg276 zD rfl hH) ?_;refine O.op (.p rfl) (.build (cs:=[_,_,_,_,_,_,_,_,_,_,_]) underlying278 rfl rfl rfl rfl rfl)<|O.opE (.p rfl) (.box (cs:=[_,_,_,_,_,_,_,_,_,_,_]) rfl rfl) ?_;rintro _ _ ⟨b3,rfl,rfl⟩;refine O.q 1 rfl<|O.nil<|S.objIs (b:=b3) (cs' :=hashC [] none 0) zB (by rw [hashC_nil];rfl) ?_;exact S.rt results126 rfl hR ⟨b3,rfl,rfl⟩
theorem copyH_c {r:Fr} {b:Nat} {M:List UInt8} {a:Option Addr} {c:Nat} (h:At r ⟨b,0,none⟩ (hashC M a c)) (hl:Arr Rp.u8 r (.slice a (remB M).length c) (remB M)) :
  Con prog 212 #[.pointer (some ⟨b,0,none⟩)] r [] (Ret fun v η=>∃ b' a' c',v=.pointer (some ⟨b',0,none⟩)∧η=[obj b' 278 (hashC M a' c'),OwnP Rp.u8 5 (.slice a' (remB M).length c') (remB M)]):=by
 obtain ⟨x0,x1,x2,x3,x4,x5,x6,x7,hx,hc⟩:=hashC_x M a c;have hrl:(remB M).length<128:=by rw [remB_len];omega
 have h0:=h;rw [hc] at h;refine Con.of (n:=16) _ rfl func212 rfl rfl rfl fun g hg R hR=>?_;have h:=h.mono hg;have h0:=h0.mono hg;have hl:=hl.mono hg;refine S.seq<|S.region rfl<|O.q 1 rfl<|O.nil<|S.seq<|S.seq<|S.region rfl<|O.q 1 rfl<|O.call0 (.p rfl) rfl zD rfl rfl ((there_c h0)) ?_;rintro _ _ ⟨rfl,rfl⟩
 try simp only [zx1,zx2,zx3]
 refine O.sT 5 rfl zG ?_;refine O.op (.p rfl) (.not rfl)<|O.nil<|S.condF rfl<|S.skip<|S.seq<|S.region rfl<|O.q 1 rfl<|O.op (.p rfl) (.nilCheck rfl)<|O.op (.p rfl) (.loadAgg isAgg278 zD rfl h) ?_;refine O.opE (.p rfl) (.alloc (cs:=[.int .u64 0,.int .u64 0,.int .u64 0,.int .u64 0,.int .u64 0,.int .u64 0,.int .u64 0,.int .u64 0,.slice none 0 0,.int .u64 0,.bool false]) zeroValue278 rfl) ?_;rintro _ _ ⟨b3,rfl,rfl⟩;refine O.opU rfl (.storeObj zD rfl rfl rfl rfl zB zH) ?_;refine O.nil<|S.seq<|S.region rfl<|O.q 1 rfl<|O.op (.p rfl) (.nilCheck rfl)<|O.op (.p rfl) (.fieldAddr fld278x1 rfl)<|O.op (.p rfl) (.loadAt flat24 rfl (h.drop 8) rfl) ?_;refine O.call0 (.p rfl) rfl zD rfl rfl ((cloneB_c hl zC)) ?_;rintro _ _ ⟨a14,c14,rfl,rfl⟩
 try simp only [zx1,zx2,zx3]
 refine O.op (.p rfl) (.fieldObj fld278x1 rfl)<|O.opU rfl (.store1 flat24 rfl rfl zN zB zH) ?_;refine O.nil<|S.seq<|S.region rfl<|O.q 1 rfl<|O.nil<|S.objIs (b:=b3) (cs' :=hashC M a14 c14) zB (by rw [hashC,hx];rfl) ?_;exact S.rt results212 rfl hR ⟨b3,a14,c14,rfl,rfl⟩
theorem be_take8 (n:Int) (j:Nat) (h:j<8):(be n).take j++[beAt n (7 - j)]=(be n).take (j+1):=by
 match j,h with
 |0,_|1,_|2,_|3,_|4,_|5,_|6,_|7,_=>rfl
theorem be_take_l (n:Int) (j:Nat) (h:j≤8):((be n).take j).length=j:=by rw [List.length_take,be_length];omega
theorem shiftN {N:Nat} (hN:N<18446744073709551616) {j:Nat} (hj:j<8):Value.int .u8 (IntKind.u8.wrap ((N:Int).fdiv (2 ^ min ((56:Int) - ((8*j:Nat):Int)).toNat IntKind.u64.bits)))=byteV (beAt (N:Int) (7 - j)):=by
 have:=shift_byte (N:Int) (7 - j) zC ((56:Int) - ((8*j:Nat):Int)) zC;rw [wrapN hN] at this;rw [this];rfl
theorem pad_snoc (z:Nat):(128:UInt8)::List.replicate z 0++[0]=128::List.replicate (z+1) 0:=by
 rw [List.cons_append,← List.replicate_succ']
theorem outB_snoc {ws:List U64} {k:Nat} (h:k<ws.length):outB (ws.take k)++outW ws[k]=outB (ws.take (k+1)):=by
 rw [List.take_succ_eq_append_getElem h];unfold outB;rw [List.map_append,List.flatten_append];simp
theorem sumH_c {r:Fr} {b:Nat} {M:List UInt8} {a:Option Addr} {c:Nat} (h:At r ⟨b,0,none⟩ (hashC M a c)) (hl:Arr Rp.u8 r (.slice a (remB M).length c) (remB M)) (hK:At r ⟨1,0,none⟩ (w64s shaK)) (hm:M.length≤100000000000) :
  Con prog 128 #[.pointer (some ⟨b,0,none⟩)] r [] (Ret fun v η=>∃ a' c',v=.slice a' 64 c' ∧η=[OwnP Rp.u8 5 (.slice a' 64 c') (shaSum M)]):=by
 obtain ⟨x0,x1,x2,x3,x4,x5,x6,x7,hx,hc0⟩:=hashC_x M a c;clear hx hc0 x0 x1 x2 x3 x4 x5 x6 x7;have hrm:(remB M).length=M.length % 128:=remB_len M;have hpn:padN M.length<128:=by unfold padN;omega
 refine Con.of (n:=73) _ rfl func128 rfl rfl rfl fun g hg R hR=>?_;have h:=h.mono hg;have hl:=hl.mono hg;have hK:=hK.mono hg;refine S.seq<|S.region rfl<|O.q 1 rfl<|O.nil<|S.seq<|S.region rfl<|O.q 1 rfl<|O.call0 (.p rfl) rfl zD rfl rfl ((copyH_c h hl)) ?_;rintro _ _ ⟨b12,a12,c12,rfl,rfl⟩
 try simp only [zx1,zx2,zx3]
 refine O.q 1 rfl<|O.nil<|S.seq<|S.seq<|S.region rfl<|O.q 1 rfl<|O.op (.p rfl) (.eqlP underlying192 rfl rfl)<|O.sF 14 rfl zG ?_;refine O.nil<|S.condF rfl<|S.skip (S.seq ?_);obtain ⟨x0,x1,x2,x3,x4,x5,x6,x7,hx,hc⟩:=hashC_x M a12 c12;refine S.objIs (b:=b12) (cs' :=[.int .u64 (x0.toNat:Int),.int .u64 (x1.toNat:Int),.int .u64 (x2.toNat:Int),.int .u64 (x3.toNat:Int),.int .u64 (x4.toNat:Int),.int .u64 (x5.toNat:Int),.int .u64 (x6.toNat:Int),.int .u64 (x7.toNat:Int),.slice a12 (remB M).length c12,.int .u64 (M.length:Int),.bool true]) zB hc ?_;refine S.region rfl<|O.q 1 rfl<|O.op (.p rfl) (.nilCheck rfl)<|O.op (.p rfl) (.fieldObj fld278x2 rfl)<|O.op (.p rfl) (.lo flat274) ?_;refine O.op (.p rfl) (.mulW rfl rfl)<|O.slot 19 (v' :=.int .u64 ((8*M.length:Nat):Int)) rfl (by exact congrArg _ (by rw [show (8:Int)*(M.length:Int)=((8*M.length:Nat):Int) from by omega,wrapN zC])) ?_;refine O.q 1 rfl<|O.nil<|S.seq<|S.region rfl<|O.opE (.p rfl) (.makeP0 (T:=Rp.u8) (c:=256) underlying24 elem5 rfl rfl rfl rfl zF zF) ?_;rintro _ _ ⟨a20,c20,rfl,rfl⟩;refine O.opE (.p rfl) (.litP (T:=Rp.u8) (ys:=[128]) underlying24 elem5 zF rfl rfl ⟨rfl,trivial⟩ zF) ?_;rintro _ _ ⟨a21,c21,rfl,rfl⟩;refine O.opE (.p rfl) (.appendO (T:=Rp.u8) underlying24 elem5 zF rfl rfl zB zB zI zI) ?_;rintro _ _ ⟨a22,c22,rfl,rfl⟩
 refine O.q 1 rfl<|O.nil<|S.seq<|S.block<|S.loopK2 (ι:=Nat) (κ:=Option Addr × Nat) (fun z s=>z≤padN M.length) (fun z s=>[(5,.slice s.1 (1+z) s.2)]) [(3,_),(4,_)] (fun z s=>[OwnP Rp.u8 5 (.slice s.1 (1+z) s.2) (128::List.replicate z 0),obj b12 278 [.int .u64 (x0.toNat:Int),.int .u64 (x1.toNat:Int),.int .u64 (x2.toNat:Int),.int .u64 (x3.toNat:Int),.int .u64 (x4.toNat:Int),.int .u64 (x5.toNat:Int),.int .u64 (x6.toNat:Int),.int .u64 (x7.toNat:Int),.slice a12 (remB M).length c12,.int .u64 (M.length:Int),.bool true],OwnP Rp.u8 5 (.slice a12 (remB M).length c12) (remB M)]) (fun z s=>padN M.length - z) (0) ((a22,c22)) zL (.cons rfl (.nil)) (.cons rfl (.cons rfl (.nil))) rfl fun z s hx ih=>?_;have hm1:=meltRefl (g:=g);refine S.seq<|S.seq<|S.region rfl<|O.q 1 rfl<|O.op (.p rfl) (.nilCheck rfl)<|O.op (.p rfl) (.fieldObj fld278x1 rfl)<|O.op (.p rfl) (.lo flat24) ?_;refine O.op (.p rfl) (.len rfl underlying24 rfl)<|O.q 1 rfl<|O.op (.p rfl) (.len rfl underlying24 rfl)<|O.op (.p rfl) (.add rfl rfl (IntWalk.i64_in _ zC))<|O.op (.p rfl) (.rem rfl rfl zC)<|O.slot 31 (v' :=.int .i64 (((M.length % 128+(1+z)) % 128:Nat):Int)) rfl (by exact congrArg (Value.int .i64) (by rw [hrm,Int.tmod_eq_emod_of_nonneg zC];omega)) ?_;refine O.op (.p rfl) (.neq rfl rfl)<|O.nil ?_
 first|refine S.condD rfl (fun h32=>?_) (fun h32=>?_)|refine S.condB rfl (fun h32=>?_) (fun h32=>?_)
 ·have hz:z<padN M.length:=by unfold padN at *;omega
  refine S.skip<|S.block<|S.region rfl<|O.q 1 rfl<|O.opE (.p rfl) (.litP (T:=Rp.u8) (ys:=[0]) underlying24 elem5 zF rfl rfl ⟨rfl,trivial⟩ zF) ?_;rintro _ _ ⟨a34,c34,rfl,rfl⟩;refine O.opE (.p rfl) (.appendO (T:=Rp.u8) underlying24 elem5 zF rfl rfl zB zB zI zI) ?_;rintro _ _ ⟨a35,c35,rfl,rfl⟩;refine O.q 1 rfl<|O.nil (S.inBlock ?_);rw [pad_snoc];have hlz:(128::List.replicate z (0:UInt8)).length=1+z:=by rw [List.length_cons,List.length_replicate];omega
  simp only [hlz,List.length_singleton];exact S.pw (ih (z+1) ((a35,c35)) zC zC)
 ·clear ih
  have hz:z=padN M.length:=by unfold padN at *;omega
  subst hz;have hlz:(128::List.replicate (padN M.length) (0:UInt8)).length=1+padN M.length:=by rw [List.length_cons,List.length_replicate];omega
  refine S.exit rfl<|S.seq<|S.region rfl<|O.q 1 rfl<|O.opE (.p rfl) (.appendZ (T:=Rp.u8) (a:=(0:UInt8)) (m:=8) underlying24 underlying3 elem5 zF rfl rfl rfl rfl zB (by rw [hlz];omega) (by rw [hlz];omega) (by rw [hlz];omega)) ?_;rintro _ _ ⟨a37,c37,rfl,rfl⟩;refine O.q 1 rfl<|O.nil (S.seq (S.seq ?_));have hlp:(128::List.replicate (padN M.length) (0:UInt8)++List.replicate 8 0).length=9+padN M.length:=by rw [List.length_append,hlz,List.length_replicate];omega
  have hpB:padB M.length=128::List.replicate (padN M.length) (0:UInt8)++List.replicate 8 0++be (8*(M.length:Int)):=rfl;rw [show (128::List.replicate (padN M.length) (0:UInt8)).length+8=9+padN M.length from by rw [hlz];omega];generalize 128::List.replicate (padN M.length) (0:UInt8)++List.replicate 8 0=E at hlp hpB ⊢;generalize padN M.length=pn at hlp hpn ⊢;refine S.ownIs (T:=Rp.u8) (e:=5) (v' :=.slice a37 (9+pn) c37) (xs' :=E++(be (8*(M.length:Int))).take 0) zB rfl zL ?_;refine S.region rfl<|O.q 1 rfl<|O.nil<|S.block<|S.loopK2 (ι:=Nat) (κ:=Option Addr × Nat) (fun j s=>j≤8) (fun j s=>[(6,.int .i64 ((56:Int) - ((8*j:Nat):Int))),(5,.slice s.1 (9+pn+j) s.2)]) [(3,_),(4,_)] (fun j s=>[OwnP Rp.u8 5 (.slice s.1 (9+pn+j) s.2) (E++(be (8*(M.length:Int))).take j),obj b12 278 [.int .u64 (x0.toNat:Int),.int .u64 (x1.toNat:Int),.int .u64 (x2.toNat:Int),.int .u64 (x3.toNat:Int),.int .u64 (x4.toNat:Int),.int .u64 (x5.toNat:Int),.int .u64 (x6.toNat:Int),.int .u64 (x7.toNat:Int),.slice a12 (remB M).length c12,.int .u64 (M.length:Int),.bool true],OwnP Rp.u8 5 (.slice a12 (remB M).length c12) (remB M)]) (fun j s=>8 - j) (0) ((a37,c37)) zL (.cons rfl (.cons rfl (.nil))) (.cons rfl (.cons rfl (.nil))) rfl fun j s hx ih=>?_;have hm2:=meltRefl (g:=g);refine S.seq<|S.seq<|S.region rfl<|O.q 1 rfl<|O.op (.p rfl) (.geq rfl rfl)<|O.nil ?_
  first|refine S.condD rfl (fun h39=>?_) (fun h39=>?_)|refine S.condB rfl (fun h39=>?_) (fun h39=>?_)
  ·have hj:j<8:=by omega
   have hlj:=be_take_l (8*(M.length:Int)) j zC;refine S.skip<|S.seq<|S.block<|S.region rfl<|O.q 3 rfl<|O.op (.p rfl) (.shr rfl rfl zC)<|O.op (.p rfl) (.cvt underlying274 underlying5 rfl)<|O.slot 46 (v' :=byteV (beAt (8*(M.length:Int)) (7 - j))) rfl (by exact (shiftN (N:=8*M.length) zC hj).trans (by rw [show ((8*M.length:Nat):Int)=8*(M.length:Int) from by omega])) ?_;refine O.opE (.p rfl) (.litP (T:=Rp.u8) (ys:=[beAt (8*(M.length:Int)) (7 - j)]) underlying24 elem5 zF rfl rfl ⟨rfl,trivial⟩ zF) ?_;rintro _ _ ⟨a47,c47,rfl,rfl⟩;refine O.opE (.p rfl) (.appendO (T:=Rp.u8) underlying24 elem5 zF rfl rfl zB zB zI zI) ?_;rintro _ _ ⟨a48,c48,rfl,rfl⟩;refine O.q 1 rfl<|O.nil<|S.inBlock<|S.region rfl<|O.q 1 rfl<|O.op (.p rfl) (.sub rfl rfl (IntWalk.i64_in _ zC))<|O.slot 41 (v' :=.int .i64 ((56:Int) - ((8*(j+1):Nat):Int))) rfl (by exact congrArg (Value.int .i64) zC) ?_;refine O.q 1 rfl<|O.nil ?_;rw [List.append_assoc,be_take8 _ j hj]
   try simp only [List.length_append,hlp,hlj,List.length_singleton]
   exact S.pw (ih (j+1) ((a48,c48)) zC zC)
  ·clear ih
   have hj:j=8:=by omega
   subst hj;rw [show (be (8*(M.length:Int))).take 8=be (8*(M.length:Int)) from rfl,← hpB];have hpl:(padB M.length).length=9+pn+8:=by rw [hpB,List.length_append,hlp,be_length]
   rw [← hpl];refine S.objIs (b:=b12) (cs' :=hashC M a12 c12) zB hc.symm ?_;refine S.exit rfl<|S.seq<|S.frzA zB fun g hs hm hE=>?_;replace hg:=Fr.sub_trans hg hs;replace hR:=melted hR hm
   try replace h:=h.mono hs
   try replace hl:=hl.mono hs
   try replace hK:=hK.mono hs
   replace hm1:=meltTrans hm1 hm;replace hm2:=meltTrans hm2 hm;clear hs hm;refine S.region rfl<|O.q 2 rfl<|O.opE (.p rfl) (.litP (T:=Rp.cells 1) (ys:=[[.slice s.1 (padB M.length).length s.2]]) underlying109 elem24 zF rfl rfl ⟨⟨rfl,rfl,by first|(simp;done)|(intro v hv;simp [Value.cells] at hv;rcases hv with rfl|rfl<;>rfl)|(refine List.forall_mem_cons.2 ⟨rfl,?_⟩;repeat (first|exact (fun _ h=>absurd h List.not_mem_nil)|refine List.forall_mem_cons.2 ⟨rfl,?_⟩))⟩,trivial⟩ zF) ?_;rintro _ _ ⟨a51,c51,rfl,rfl⟩;refine O.frzA zB fun g hs hm ha51=>?_;replace hg:=Fr.sub_trans hg hs;replace hR:=melted hR hm
   try replace h:=h.mono hs
   try replace hl:=hl.mono hs
   try replace hK:=hK.mono hs
   try replace hE:=hE.mono hs
   replace hm1:=meltTrans hm1 hm;replace hm2:=meltTrans hm2 hm;clear hs hm;refine O.callSs (.p rfl) rfl zD rfl rfl zJ (write_c (ps:=[padB M.length]) (Arr.ofCells ha51 ⟨⟨_,rfl,hE⟩,trivial⟩ rfl) hK (by simp only [List.flatten_cons,List.flatten_nil,List.append_nil];omega)) ?_;rintro _ _ ⟨a52,c52,rfl,rfl⟩
   try simp only [zx1,zx2,zx3]
   refine O.nil (S.seq ?_);rw [show M++[padB M.length].flatten=M++padB M.length from by simp];refine S.frzA zB fun g hs hm hz1=>?_;replace hg:=Fr.sub_trans hg hs;replace hR:=melted hR hm
   try replace h:=h.mono hs
   try replace hl:=hl.mono hs
   try replace hK:=hK.mono hs
   try replace hE:=hE.mono hs
   try replace ha51:=ha51.mono hs
   replace hm1:=meltTrans hm1 hm;replace hm2:=meltTrans hm2 hm;clear hs hm;obtain ⟨y0,y1,y2,y3,y4,y5,y6,y7,hy,hyc⟩:=hashC_x (M++padB M.length) a52 c52;refine S.objIs (b:=b12) (cs' :=[.int .u64 (y0.toNat:Int),.int .u64 (y1.toNat:Int),.int .u64 (y2.toNat:Int),.int .u64 (y3.toNat:Int),.int .u64 (y4.toNat:Int),.int .u64 (y5.toNat:Int),.int .u64 (y6.toNat:Int),.int .u64 (y7.toNat:Int),.slice a52 (remB (M++padB M.length)).length c52,.int .u64 ((M++padB M.length).length:Int),.bool true]) zB hyc ?_;refine S.frzO zB fun g hs hm hob=>?_;replace hg:=Fr.sub_trans hg hs;replace hR:=melted hR hm
   try replace h:=h.mono hs
   try replace hl:=hl.mono hs
   try replace hK:=hK.mono hs
   try replace hE:=hE.mono hs
   try replace ha51:=ha51.mono hs
   try replace hz1:=hz1.mono hs
   replace hm1:=meltTrans hm1 hm;replace hm2:=meltTrans hm2 hm;clear hs hm;have hsum:shaSum M=outB (feed shaH (M++padB M.length)):=rfl;have hwl:(feed shaH (M++padB M.length)).length=8:=feed_len _ _ rfl;generalize feed shaH (M++padB M.length)=ws at hy hwl hsum;refine S.addNil (T:=Rp.u8) (e:=5) ?_;refine S.region rfl<|O.q 1 rfl<|O.nil<|S.seq<|S.seq<|S.region rfl<|O.q 1 rfl<|O.op (.p rfl) (.nilCheck rfl)<|O.op (.p rfl) (.fieldAddr fld278x0 rfl)<|O.op (.p rfl) (.loadAgg (cs:=[_,_,_,_,_,_,_,_]) isAgg276 zD rfl (hob.take 8)) ?_;refine O.slot 56 (v' :=.agg (w64s ws).toArray) rfl (by rw [hy];rfl) ?_;refine O.q 1 rfl<|O.nil<|S.block<|S.loopK2 (ι:=Nat) (κ:=Option Addr × Nat) (fun k s=>k≤8) (fun k s=>[(57,.int .i64 (k:Int)),(7,.slice s.1 (8*k) s.2)]) [(56,_)] (fun k s=>[OwnP Rp.u8 5 (.slice s.1 (8*k) s.2) (outB (ws.take k))]) (fun k s=>8 - k) (0) ((none,0)) zL (.cons rfl (.cons rfl (.nil))) (.cons rfl (.nil)) rfl fun k s hx ih=>?_;have hm3:=meltRefl (g:=g);refine S.seq<|S.region rfl<|O.op (.p rfl) (.lss rfl rfl)<|O.nil (S.seq ?_)
   first|refine S.condD rfl (fun h58=>?_) (fun h58=>?_)|refine S.condB rfl (fun h58=>?_) (fun h58=>?_)
   ·have hk:k<8:=by omega
    have hkw:k<ws.length:=by omega
    have hol:(outB (ws.take k)).length=8*k:=by rw [outB_len,List.length_take];omega
    have hsn:=outB_snoc hkw;refine S.skip<|S.seq<|S.block<|S.seq<|S.region rfl<|O.op (.p rfl) (.indexArr (j:=k) underlying276 size274 flat274 rfl rfl rfl zC (by rw [List.getElem?_toArray];exact w64s_get hkw)) ?_;refine O.slot 59 (v' :=w64 ws[k]) rfl (by exact congrArg w64 (by simp [List.getD_eq_getElem?_getD,hkw])) ?_;refine O.q 1 rfl<|O.nil (S.seq ?_);generalize ws[k]=x at hsn ⊢;refine S.ownIs (T:=Rp.u8) (e:=5) (v' :=.slice s.1 (8*k+0) s.2) (xs' :=outB (ws.take k)++(outW x).take 0) zB rfl zL ?_;refine S.region rfl<|O.q 1 rfl<|O.nil<|S.block<|S.loopK2 (ι:=Nat) (κ:=Option Addr × Nat) (fun j u=>j≤8) (fun j u=>[(10,.int .i64 ((56:Int) - ((8*j:Nat):Int))),(7,.slice u.1 (8*k+j) u.2)]) [(9,_),(56,_),(57,_)] (fun j u=>[OwnP Rp.u8 5 (.slice u.1 (8*k+j) u.2) (outB (ws.take k)++(outW x).take j)]) (fun j u=>8 - j) (0) (s) zL (.cons rfl (.cons rfl (.nil))) (.cons rfl (.cons rfl (.cons rfl (.nil)))) rfl fun j u hx ih=>?_;have hm4:=meltRefl (g:=g);refine S.seq<|S.seq<|S.region rfl<|O.q 1 rfl<|O.op (.p rfl) (.geq rfl rfl)<|O.nil ?_
    first|refine S.condD rfl (fun h61=>?_) (fun h61=>?_)|refine S.condB rfl (fun h61=>?_) (fun h61=>?_)
    ·have hj:j<8:=by omega
     have hlj:=be_take_l (x.toNat:Int) j zC;have hxl:=x.toNat_lt;have htk:(outB (ws.take k)++(outW x).take j).length=8*k+j:=by rw [List.length_append,hol,outW,hlj]
     refine S.skip<|S.seq<|S.block<|S.region rfl<|O.q 3 rfl<|O.op (.p rfl) (.shr rfl rfl zC)<|O.op (.p rfl) (.cvt underlying274 underlying5 rfl)<|O.slot 68 (v' :=byteV (beAt (x.toNat:Int) (7 - j))) rfl (by exact shiftN (N:=x.toNat) zC hj) ?_;refine O.opE (.p rfl) (.litP (T:=Rp.u8) (ys:=[beAt (x.toNat:Int) (7 - j)]) underlying24 elem5 zF rfl rfl ⟨rfl,trivial⟩ zF) ?_;rintro _ _ ⟨a69,c69,rfl,rfl⟩;refine O.opE (.p rfl) (.appendO (T:=Rp.u8) underlying24 elem5 zF rfl rfl zB zB zI zI) ?_;rintro _ _ ⟨a70,c70,rfl,rfl⟩;refine O.q 1 rfl<|O.nil<|S.inBlock<|S.region rfl<|O.q 1 rfl<|O.op (.p rfl) (.sub rfl rfl (IntWalk.i64_in _ zC))<|O.slot 63 (v' :=.int .i64 ((56:Int) - ((8*(j+1):Nat):Int))) rfl (by exact congrArg (Value.int .i64) zC) ?_;refine O.q 1 rfl<|O.nil ?_;rw [List.append_assoc,show (outW x).take j++[beAt (x.toNat:Int) (7 - j)]=(outW x).take (j+1) from be_take8 _ j hj]
     try simp only [List.length_append,hol,outW,hlj,List.length_singleton]
     exact S.pw (ih (j+1) ((a70,c70)) zC zC)
    ·clear ih
     have hj:j=8:=by omega
     subst hj;rw [show (outW x).take 8=outW x from rfl,hsn];refine S.exit rfl<|S.inBlock<|S.region rfl<|O.op (.p rfl) (.add rfl rfl (IntWalk.i64_in _ zC))<|O.q 1 rfl<|O.nil ?_;exact S.pw (ih (k+1) (u) zC zC)
   ·clear ih
    have hk:k=8:=by omega
    subst hk;rw [show ws.take 8=ws from List.take_of_length_le zC,← hsum];refine S.exit rfl<|S.seq<|S.region rfl<|O.q 2 rfl<|O.nil ?_;exact S.rt results128 rfl hR ⟨s.1,s.2,rfl,rfl⟩
theorem shaSum_c {r:Fr} {va:Value} {ps:List (List UInt8)} (hp:Arr (Rp.slice Rp.u8) r va ps) (hH:At r ⟨0,0,none⟩ (w64s shaH)) (hK:At r ⟨1,0,none⟩ (w64s shaK)) (hl:ps.flatten.length≤100000000000) :
  Con prog 59 #[va] r [] (Ret fun v η=>∃ a c,v=.slice a 64 c∧η=[OwnP Rp.u8 5 (.slice a 64 c) (shaSum ps.flatten)]):=by
 obtain ⟨a1,c1,rfl⟩:=hp.shape;refine Con.of (n:=10) _ rfl func59 rfl rfl rfl fun g hg R hR=>?_;have hp:=hp.mono hg;have hH:=hH.mono hg;have hK:=hK.mono hg;refine S.seq<|S.region rfl<|O.q 1 rfl<|O.nil<|S.seq<|S.region rfl<|O.call0 (.p rfl) rfl zD rfl rfl ((new_c hH)) ?_;rintro _ _ ⟨b4,rfl,rfl⟩
 try simp only [zx1,zx2,zx3]
 refine O.q 1 rfl<|O.nil<|S.seq<|S.addNil (T:=Rp.u8) (e:=5) ?_;refine S.region rfl<|O.q 2 rfl<|O.callSs (.p rfl) rfl zD rfl rfl zJ (write_c (M:=[]) (a:=none) (c:=0) hp hK (by simp only [List.length_nil];omega)) ?_;rintro _ _ ⟨a7,c7,rfl,rfl⟩
 try simp only [zx1,zx2,zx3]
 refine O.nil<|S.seq<|S.frzO zB fun g hs hm hob=>?_;replace hg:=Fr.sub_trans hg hs;replace hR:=melted hR hm
 try replace hp:=hp.mono hs
 try replace hH:=hH.mono hs
 try replace hK:=hK.mono hs
 clear hs hm;refine S.frzA zB fun g hs hm hlf=>?_;replace hg:=Fr.sub_trans hg hs;replace hR:=melted hR hm
 try replace hp:=hp.mono hs
 try replace hH:=hH.mono hs
 try replace hK:=hK.mono hs
 try replace hob:=hob.mono hs
 clear hs hm;refine S.region rfl<|O.q 1 rfl<|O.call0 (.p rfl) rfl zD rfl rfl ((sumH_c hob hlf hK hl)) ?_;rintro _ _ ⟨a9,c9,rfl,rfl⟩
 try simp only [zx1,zx2,zx3]
 refine O.q 1 rfl<|O.nil ?_;exact S.rt results59 rfl hR ⟨a9,c9,rfl,rfl⟩
theorem triedSB_ret {g:Gr} {be bx:Nat} {x:Value} {z:Int} {T1 T2:TypeId} {w:World} {R:Ending→World→Prop} {η:List SProp} (hw:Holds w g (obj bx T1 [x]::obj be T2 [.int .i64 z]::η)) (hR:∀ w,Holds w g (obj bx T1 [x]::obj be T2 [.int .i64 z]::η)→R (.returned (.tuple #[x,.int .i64 z])) w) :
  CallsD prog 224 #[.pointer (some ⟨be,0,none⟩),.pointer (some ⟨bx,0,none⟩)] .returning w (DPost2 prog g bx be 24 44 R):=by
 refine (callsD_rec (R:=fun e w=>(∃ v,e=.returned v)∧Holds w g (obj bx T1 [x]::obj be T2 [.int .i64 z]::η)) [.pointer (some ⟨be,0,none⟩),.pointer (some ⟨bx,0,none⟩)] rfl func224 rfl rfl rfl rfl hw ?_).mono ?_
 rotate_left
 ·rintro e u' w' ⟨rfl,⟨v,rfl⟩,h⟩
  exact ⟨⟨v,rfl⟩,rfl,T1,T2,_,_,_,_,η,h,LoadsAs.flat flat24,LoadsAs.flat flat44,hR w' h⟩
 refine S.seq<|S.region rfl<|O.q 1 rfl<|O.op (.p rfl) (.neqIN underlying20 rfl)<|O.nil<|S.condF rfl<|S.skip<|S.end0 results224 fun w hw=>?_;exact ⟨⟨_,rfl⟩,hw⟩
theorem triedSB_pan {g:Gr} {be bx:Nat} {x:Value} {z z' :Int} {T1 T2:TypeId} {w:World} {R:Ending→World→Prop} {η:List SProp} (hw:Holds w g (obj bx T1 [x]::obj be T2 [.int .i64 z']::η))
  (hR:∀ w,Holds w g (obj bx T1 [.slice none 0 0]::obj be T2 [.int .i64 z]::η)→R (.returned (.tuple #[.slice none 0 0,.int .i64 z])) w) :
  CallsD prog 224 #[.pointer (some ⟨be,0,none⟩),.pointer (some ⟨bx,0,none⟩)] (.panicking (errP 44 z)) w (DPost2 prog g bx be 24 44 R):=by
 refine (callsD_rec (R:=fun e w=>(∃ v,e=.returned v)∧Holds w g (obj bx T1 [.slice none 0 0]::obj be T2 [.int .i64 z]::η)) [.pointer (some ⟨be,0,none⟩),.pointer (some ⟨bx,0,none⟩)] rfl func224 rfl rfl rfl rfl hw ?_).mono ?_
 rotate_left
 ·rintro e u' w' ⟨rfl,⟨v,rfl⟩,h⟩
  exact ⟨⟨v,rfl⟩,rfl,T1,T2,_,_,_,_,η,h,LoadsAs.flat flat24,LoadsAs.flat flat44,hR w' h⟩
 refine S.seq<|S.region rfl<|O.q 1 rfl<|O.op (.p rfl) (.neqIV underlying20 rfl)<|O.nil<|S.condT rfl<|S.seq<|S.region rfl<|O.q 1 rfl<|O.nil<|S.seq<|S.seq<|S.region rfl<|O.q 1 rfl<|O.op (.p rfl) (.assertYes underlying44 rfl)<|O.q 3 rfl<|O.opU rfl (.store1 flat44 rfl rfl zN zB zH) ?_;refine O.q 1 rfl<|O.nil<|S.seq<|S.region rfl<|O.q 1 rfl<|O.op (.p rfl) (.not rfl)<|O.nil<|S.condF rfl<|S.skip<|S.seq<|S.region rfl<|O.q 1 rfl<|O.nil<|S.region rfl<|O.q 1 rfl<|O.opU rfl (.store1 flat24 rfl rfl zN zB zH) ?_;refine O.nil<|S.end0 results224 fun w hw=>?_;exact ⟨⟨_,rfl⟩,hw.picks zQ⟩
theorem triedSB_c {r:Fr} {f:Nat} {first cap:Array Value} {K:Value→List SProp→Prop} {X:Int→Prop} (hc:callable prog f=true) (hf1:(Value.func (.func f) first cap).oneCell' =true) (hK1:∀ u ζ,K u ζ→u.oneCell' =true)
  (con:Con prog f (first++#[]++cap) r [] (RetP K (fun ch η=>∃ z,ch=errP 44 z∧X z∧η=[]))) :
  Con prog 144 #[.func (.func f) first cap] r [] (Ret fun v η=>(∃ u,K u η∧v=.tuple #[u,.int .i64 0])∨(∃ z,X z∧η=[]∧v=.tuple #[.slice none 0 0,.int .i64 z])):=by
 refine Con.of (n:=7) [.func (.func f) first cap] rfl func144 rfl rfl rfl fun g hg R hR=>?_;refine S.seq<|S.region rfl<|O.opE (.p rfl) (.alloc (cs:=[.slice none 0 0]) zeroValue24 rfl) ?_;rintro _ _ ⟨b2,rfl,rfl⟩;refine O.opE (.p rfl) (.alloc (cs:=[.int .i64 0]) zeroValue44 rfl) ?_;rintro _ _ ⟨b3,rfl,rfl⟩;refine O.nil<|S.seq<|S.region rfl<|O.op (.p rfl) (.mkFunc rfl rfl)<|O.defer rfl rfl rfl rfl ?_;refine O.nil<|S.seq<|S.region rfl<|O.q 1 rfl<|O.callP0D (.p rfl) rfl hc rfl rfl (con.sub hg) (fun a ch η' w hF hX hW=>by (obtain ⟨z,rfl,hx,rfl⟩:=hX;exact leavesCell2 results144 hF rfl rfl zL zD (triedSB_pan (hW.picks zQ) fun w hw=>Holds.end_ hR hw ⟨_,.inr ⟨z,hx,rfl,rfl⟩,by repeat (first|exact zpa|exact zpn|(apply zpc;focus (repeat (first|exact zh|apply zt)))|apply zps)⟩))) ?_;rintro v6 _ hk6
 try simp only [zx1,zx2,zx3]
 have hone:=hK1 _ _ hk6;refine O.perm (List.perm_append_comm) ?_;simp only [List.cons_append,List.nil_append];refine O.opU rfl (.store1 flat24 rfl rfl zN zB zH) ?_;refine O.opU rfl (.store1 flat44 rfl rfl zN zB zH) ?_;refine O.nil<|S.retL fun a w hf hd hw=>?_;exact leavesCell2 results144 hf rfl rfl zL zD (triedSB_ret (hw.picks zQ) fun w hw=>Holds.end_ hR hw ⟨_,.inl ⟨_,hk6,rfl⟩,by repeat (first|exact zpa|exact zpn|(apply zpc;focus (repeat (first|exact zh|apply zt)))|apply zps)⟩)
theorem isNaN_c {r:Fr} (x:Int):Con prog 330 #[.int .i64 x] r [] (Ret fun v η=>v=.bool false∧η=[]):=by
 refine Con.of (n:=6) _ rfl func330 rfl rfl rfl fun g hg R hR=>?_;refine S.seq<|S.region rfl<|O.q 1 rfl<|O.nil<|S.seq<|S.region rfl<|O.q 2 rfl<|O.op (.p rfl) (.neq rfl rfl)<|O.sF 5 rfl zL ?_;refine O.q 1 rfl<|O.nil ?_;exact S.rt results330 rfl hR ⟨rfl,rfl⟩
theorem compare_c {r:Fr} (x y:Int):Con prog 294 #[.int .i64 x,.int .i64 y] r [] (Ret fun v η=>v=.int .i64 (cmpZ x y)∧η=[]):=by
 refine Con.of (n:=20) _ rfl func294 rfl rfl rfl fun g hg R hR=>?_;refine S.seq<|S.region rfl<|O.q 1 rfl<|O.nil<|S.seq<|S.region rfl<|O.q 1 rfl<|O.call0 (.p rfl) rfl zD rfl rfl (isNaN_c _) ?_;rintro _ _ ⟨rfl,rfl⟩
 try simp only [zx1,zx2,zx3]
 refine O.q 1 rfl<|O.nil<|S.seq<|S.region rfl<|O.q 1 rfl<|O.call0 (.p rfl) rfl zD rfl rfl (isNaN_c _) ?_;rintro _ _ ⟨rfl,rfl⟩
 try simp only [zx1,zx2,zx3]
 refine O.q 1 rfl<|O.nil<|S.seq<|S.seq<|S.region rfl<|O.q 1 rfl<|O.nil<|S.condF rfl<|S.skip<|S.seq<|S.seq<|S.region rfl<|O.q 1 rfl<|O.nil<|S.condF rfl<|S.skip<|S.seq<|S.seq<|S.region rfl<|O.q 2 rfl<|O.op (.p rfl) (.lss rfl rfl)<|O.nil ?_
 first|refine S.condD rfl (fun h16=>?_) (fun h16=>?_)|refine S.condB rfl (fun h16=>?_) (fun h16=>?_)
 ·refine S.seq<|S.region rfl<|O.q 1 rfl<|O.nil ?_
  exact S.rt results294 rfl hR ⟨by simp [cmpZ,h16],rfl⟩
 ·refine S.skip<|S.seq<|S.seq<|S.region rfl<|O.q 2 rfl<|O.op (.p rfl) (.gtr rfl rfl)<|O.nil ?_
  first|refine S.condD rfl (fun h19=>?_) (fun h19=>?_)|refine S.condB rfl (fun h19=>?_) (fun h19=>?_)
  ·refine S.seq<|S.region rfl<|O.q 1 rfl<|O.nil ?_
   exact S.rt results294 rfl hR ⟨by simp only [cmpZ];rw [if_neg zC,if_pos zC],rfl⟩
  ·refine S.skip<|S.seq<|S.region rfl<|O.q 1 rfl<|O.nil ?_
   exact S.rt results294 rfl hR ⟨by simp only [cmpZ];rw [if_neg zC,if_neg zC],rfl⟩
def firstNZ:List Int→Int
 |[]=>0
 |x::l=>if x≠0 then x else firstNZ l
theorem firstNZ_drop {l:List Int} {i:Nat} (h:i<l.length):firstNZ (l.drop i)=if l[i]≠0 then l[i] else firstNZ (l.drop (i+1)):=by
 rw [List.drop_eq_getElem_cons h];rfl
theorem cmpOr_c {r:Fr} {va:Value} {l:List Int} (ha:Arr Rp.i64 r va l):Con prog 293 #[va] r [] (Ret fun v η=>v=.int .i64 (firstNZ l)∧η=[]):=by
 refine Con.of (n:=18) _ rfl func293 rfl rfl rfl fun g hg R hR=>?_;have ha:=ha.mono hg;have hbd:=ha.bound;obtain ⟨a1,c1,rfl⟩:=ha.shape;refine S.seq<|S.region rfl<|O.q 1 rfl<|O.nil<|S.seq<|S.region rfl<|O.q 1 rfl<|O.nil<|S.seq<|S.seq<|S.region rfl<|O.q 1 rfl<|O.op (.p rfl) (.len rfl underlying104 rfl)<|O.q 1 rfl<|O.nil<|S.block<|S.loopK (ι:=Nat) (fun i=>i≤l.length∧firstNZ (l.drop i)=firstNZ l) (fun i=>[(8,.int .i64 (i:Int))]) [(3,_),(6,_),(7,_)] (fun i=>[]) (fun i=>l.length - i) (0) zL (.cons rfl (.nil)) (.cons rfl (.cons rfl (.cons rfl (.nil)))) rfl fun i hx ih=>?_;have hm1:=meltRefl (g:=g);obtain ⟨hx1,hx2⟩:=hx;refine S.seq<|S.region rfl<|O.op (.p rfl) (.lss rfl rfl)<|O.nil (S.seq ?_)
 first|refine S.condD rfl (fun h9=>?_) (fun h9=>?_)|refine S.condB rfl (fun h9=>?_) (fun h9=>?_)
 ·have hi:i<l.length:=by omega
  rw [firstNZ_drop hi] at hx2;refine S.skip<|S.seq<|S.block<|S.seq<|S.region rfl<|O.ia (.p rfl) underlying104 size3 rfl rfl rfl (by first|assumption|exact Arr.mono hg zE|exact Arr.left zE|exact Arr.left (Arr.mono hg zE)) (h:=fun p10 cs10 hp10 hr10=>?_);obtain ⟨rfl,hz10⟩:=hr10;refine O.op (.p rfl) (.loadAt flat3 rfl hp10 rfl) ?_;refine O.q 1 rfl<|O.nil<|S.seq<|S.region rfl<|O.q 2 rfl<|O.op (.p rfl) (.neq rfl rfl)<|O.nil ?_
  first|refine S.condD rfl (fun h14=>?_) (fun h14=>?_)|refine S.condB rfl (fun h14=>?_) (fun h14=>?_)
  ·rw [if_pos h14] at hx2
   clear ih;refine S.seq<|S.region rfl<|O.q 2 rfl<|O.nil ?_;exact S.rt results293 rfl hR ⟨by rw [hx2],rfl⟩
  ·rw [if_neg h14] at hx2
   refine S.skip<|S.inBlock<|S.region rfl<|O.op (.p rfl) (.add rfl rfl (IntWalk.i64_in _ zC))<|O.q 1 rfl<|O.nil ?_;exact S.wk (ih (i+1) (by exact ⟨by omega,hx2⟩) zC)
 ·clear ih
  have hi:i=l.length:=by omega
  subst hi;rw [List.drop_length] at hx2;refine S.exit rfl<|S.seq<|S.region rfl<|O.q 2 rfl<|O.nil ?_;exact S.rt results293 rfl hR ⟨by rw [← hx2];rfl,rfl⟩
theorem cmpOr_d {r:Fr} {e:TypeId} {va:Value} {l:List Int}:Con prog 293 #[va] r [OwnP Rp.i64 e va l] (Ret fun v η=>v=.int .i64 (firstNZ l)∧η=[]) :=
 Con.lentD (η:=[]) (bs:=[_]) fun _ hm hd=>cmpOr_c (hm.arr.right hd)
theorem vright_c {r:Fr} {a b:Int} (d:DotT) (h:d=(a,b,())):Con prog 356 #[.agg #[.int .i64 a,.int .i64 b]] r [] (Ret fun v η=>v=.bool (dotOk d)∧η=[]):=by
 subst h;refine Con.of (n:=21) _ rfl func356 rfl rfl rfl fun g hg R hR=>?_;refine S.seq<|S.region rfl<|O.opE (.p rfl) (.box (cs:=[_,_]) rfl rfl) ?_;rintro _ _ ⟨b1,rfl,rfl⟩;refine O.q 1 rfl<|O.nil<|S.seq<|S.region rfl<|O.op (.p rfl) (.fieldObj fld191x0 rfl)<|O.op (.p rfl) (.lo flat3) ?_;refine O.op (.p rfl) (.geq rfl rfl)<|O.q 1 rfl ?_
 first|refine O.caseD 6 rfl (fun h6=>?_) (fun h6=>?_)|refine O.caseB 6 rfl (fun h6=>?_) (fun h6=>?_)
 ·refine O.op (.g rfl rfl) (.fieldObj fld191x0 rfl)<|O.op (.g rfl rfl) (.lo flat3) ?_
  refine O.op (.g rfl rfl) (.leq rfl rfl)<|O.q 2 rfl ?_
  first|refine O.caseD 11 rfl (fun h11=>?_) (fun h11=>?_)|refine O.caseB 11 rfl (fun h11=>?_) (fun h11=>?_)
  ·refine O.op (.g rfl rfl) (.fieldObj fld191x1 rfl)<|O.op (.g rfl rfl) (.lo flat3) ?_
   refine O.op (.g rfl rfl) (.geq rfl rfl)<|O.q 2 rfl ?_
   first|refine O.caseD 16 rfl (fun h16=>?_) (fun h16=>?_)|refine O.caseB 16 rfl (fun h16=>?_) (fun h16=>?_)
   ·refine O.op (.g rfl rfl) (.fieldObj fld191x1 rfl)<|O.op (.g rfl rfl) (.lo flat3) ?_
    refine O.op (.g rfl rfl) (.leq rfl rfl)<|O.q 2 rfl<|O.nil ?_;exact S.rt results356 rfl hR ⟨congrArg _ (decide_eq_decide.2 (by simp only [true_and,and_true];omega)),rfl⟩
   ·refine O.q 5 rfl<|O.nil ?_
    exact S.rt results356 rfl hR ⟨congrArg _ (decide_eq_false (by simp only [];omega)).symm,rfl⟩
  ·refine O.q 10 rfl<|O.nil ?_
   exact S.rt results356 rfl hR ⟨congrArg _ (decide_eq_false (by simp only [];omega)).symm,rfl⟩
 ·refine O.q 15 rfl<|O.nil ?_
  exact S.rt results356 rfl hR ⟨congrArg _ (decide_eq_false (by simp only [];omega)).symm,rfl⟩
theorem dright_c {r:Fr} {va:Value} {v:List DotT} (ha:Arr DotRp r va v):Con prog 382 #[va] r [] (Ret fun u η=>u=.bool (vecOk v)∧η=[]):=by
 refine Con.of (n:=31) _ rfl func382 rfl rfl rfl fun g hg R hR=>?_;have ha:=ha.mono hg;have hbd:=ha.bound;obtain ⟨a1,c1,rfl⟩:=ha.shape;refine S.seq<|S.region rfl<|O.q 1 rfl<|O.nil<|S.seq<|S.seq<|S.region rfl<|O.q 1 rfl<|O.op (.p rfl) (.len rfl underlying428 rfl)<|O.q 1 rfl<|O.nil<|S.block<|S.loopK (ι:=Nat) (fun k=>k≤v.length∧vecOk (v.take k)=true) (fun k=>[(7,.int .i64 (k:Int))]) [(0,_),(5,_),(6,_)] (fun k=>[]) (fun k=>v.length - k) (0) (by exact ⟨by simp,rfl⟩) (.cons rfl (.nil)) (.cons rfl (.cons rfl (.cons rfl (.nil)))) rfl fun k hx ih=>?_;have hm1:=meltRefl (g:=g);obtain ⟨hx1,hx2⟩:=hx;refine S.seq<|S.region rfl<|O.op (.p rfl) (.lss rfl rfl)<|O.nil (S.seq ?_)
 first|refine S.condD rfl (fun h8=>?_) (fun h8=>?_)|refine S.condB rfl (fun h8=>?_) (fun h8=>?_)
 ·have hk:k<v.length:=by omega
  have hst:=vecOk_step hk hx2
  by_cases hd:dotOk v[k]=true
  ·by_cases h0:k=0
   ·
    refine S.skip<|S.seq<|S.block<|S.seq<|S.region rfl<|O.q 1 rfl<|O.ia (.p rfl) underlying428 size191 rfl rfl rfl (by first|assumption|exact Arr.mono hg zE|exact Arr.left zE|exact Arr.left (Arr.mono hg zE)) (h:=fun p10 cs10 hp10 hr10=>?_);obtain ⟨rfl,hi10,hj10⟩:=DotRp.open hr10;refine O.op (.p rfl) (.loadAgg isAgg191 zD rfl hp10) ?_;refine O.opE (.p rfl) (.alloc (cs:=[.int .i64 0,.int .i64 0]) zeroValue191 rfl) ?_;rintro _ _ ⟨b4,rfl,rfl⟩;refine O.q 1 rfl<|O.opU rfl (.storeObj zD rfl rfl rfl rfl zB zH) ?_;refine O.nil<|S.seq<|S.frzO zB fun g hs hm h4=>?_;replace hg:=Fr.sub_trans hg hs;replace hR:=melted hR hm
    try replace ha:=ha.mono hs
    try replace hp10:=hp10.mono hs
    try replace hr10:=hr10.mono hs
    replace hm1:=meltTrans hm1 hm;clear hs hm;refine S.regionD (L:=[0,1,2,3,4,5,6,7,8,9,10,11,12,13,14,15,16,17]) mixedF zD ?_;refine .quiet (.p rfl) rfl (fun _=>.loadAgg isAgg191 zD rfl h4) ?_;refine OD.call0 (.p rfl) zD rfl zD rfl rfl (vright_c v[k] rfl) ?_;rintro _ _ ⟨rfl,rfl⟩
    try simp only [zx1,zx2,zx3]
    refine OD.sT 13 rfl (by exact hd) ?_;refine .quiet (.p rfl) rfl (fun _=>.not rfl)<|OD.q 2 rfl<|.quiet (.g rfl rfl) rfl (fun _=>.gtr rfl rfl)<|OD.sF 17 rfl zK ?_;refine OD.q 12 rfl<|ODx.nil<|S.condF rfl<|S.skip<|S.inBlock<|S.region rfl<|O.op (.p rfl) (.add rfl rfl (IntWalk.i64_in _ zC))<|O.q 1 rfl<|O.nil ?_;exact S.melt hm1 (S.wk (ih (k+1) (by exact ⟨by omega,hst.2 ⟨hd,fun h=>absurd h zC⟩⟩) zC))
   ·have hk1:k - 1<v.length:=by omega
    refine S.skip<|S.seq<|S.block<|S.seq<|S.region rfl<|O.q 1 rfl<|O.ia (.p rfl) underlying428 size191 rfl rfl rfl (by first|assumption|exact Arr.mono hg zE|exact Arr.left zE|exact Arr.left (Arr.mono hg zE)) (h:=fun p10 cs10 hp10 hr10=>?_);obtain ⟨rfl,hi10,hj10⟩:=DotRp.open hr10;refine O.op (.p rfl) (.loadAgg isAgg191 zD rfl hp10) ?_;refine O.opE (.p rfl) (.alloc (cs:=[.int .i64 0,.int .i64 0]) zeroValue191 rfl) ?_;rintro _ _ ⟨b4,rfl,rfl⟩;refine O.q 1 rfl<|O.opU rfl (.storeObj zD rfl rfl rfl rfl zB zH) ?_;refine O.nil<|S.seq<|S.frzO zB fun g hs hm h4=>?_;replace hg:=Fr.sub_trans hg hs;replace hR:=melted hR hm
    try replace ha:=ha.mono hs
    try replace hp10:=hp10.mono hs
    try replace hr10:=hr10.mono hs
    replace hm1:=meltTrans hm1 hm;clear hs hm;refine S.regionD (L:=[0,1,2,3,4,5,6,7,8,9,10,11,12,13,14,15,16,17]) mixedF zD ?_;refine .quiet (.p rfl) rfl (fun _=>.loadAgg isAgg191 zD rfl h4) ?_;refine OD.call0 (.p rfl) zD rfl zD rfl rfl (vright_c v[k] rfl) ?_;rintro _ _ ⟨rfl,rfl⟩
    try simp only [zx1,zx2,zx3]
    refine OD.sT 13 rfl (by exact hd) ?_;refine .quiet (.p rfl) rfl (fun _=>.not rfl)<|OD.q 2 rfl<|.quiet (.g rfl rfl) rfl (fun _=>.gtr rfl rfl)<|OD.sT 17 rfl zK ?_;refine OD.q 3 rfl<|.quiet (.g rfl rfl) rfl (fun _=>.sub rfl rfl (IntWalk.i64_in _ zC))<|OD.ia (.g rfl rfl) underlying428 size191 rfl rfl (show _=(((k - 1):Nat):Int) by omega) (by first|assumption|exact Arr.mono hg zE|exact Arr.left zE|exact Arr.left (Arr.mono hg zE)) (h:=fun p22 cs22 hp22 hr22=>?_);obtain ⟨rfl,hi22,hj22⟩:=DotRp.open hr22;refine .quiet (.g rfl rfl) rfl (fun _=>.fieldAddr fld191x0 rfl)<|.quiet (.g rfl rfl) rfl (fun _=>.loadAt flat3 rfl hp22 rfl) ?_;refine .quiet (.g rfl rfl) rfl (fun _=>.fieldAddr fld191x0 rfl)<|.quiet (.g rfl rfl) rfl (fun _=>.loadAt flat3 rfl h4 rfl) ?_;refine .quiet (.g rfl rfl) rfl (fun _=>.geq rfl rfl)<|OD.q 2 rfl<|ODx.nil ?_
    first|refine S.condD rfl (fun h29=>?_) (fun h29=>?_)|refine S.condB rfl (fun h29=>?_) (fun h29=>?_)
    ·refine S.seq<|S.region rfl<|O.q 1 rfl<|O.nil<|S.ret results382 rfl fun w hw=>Holds.end_ hR hw ?_
     refine ⟨_,⟨?_,rfl⟩,by repeat (first|exact zpa|exact zpn|(apply zpc;focus (repeat (first|exact zh|apply zt)))|apply zps)⟩
     congr 1;symm
     refine vecOk_none (i:=k+1) ?_;rw [Bool.eq_false_iff]
     intro e
     have:=(hst.1 e).2 zC
     omega
    ·refine S.skip<|S.inBlock<|S.region rfl<|O.op (.p rfl) (.add rfl rfl (IntWalk.i64_in _ zC))<|O.q 1 rfl<|O.nil ?_
     exact S.melt hm1 (S.wk (ih (k+1) (by exact ⟨by omega,hst.2 ⟨hd,fun _=>by omega⟩⟩) zC))
  ·have hd' :dotOk v[k]=false:=by simpa using hd
   refine S.skip<|S.seq<|S.block<|S.seq<|S.region rfl<|O.q 1 rfl<|O.ia (.p rfl) underlying428 size191 rfl rfl rfl (by first|assumption|exact Arr.mono hg zE|exact Arr.left zE|exact Arr.left (Arr.mono hg zE)) (h:=fun p10 cs10 hp10 hr10=>?_);obtain ⟨rfl,hi10,hj10⟩:=DotRp.open hr10;refine O.op (.p rfl) (.loadAgg isAgg191 zD rfl hp10) ?_;refine O.opE (.p rfl) (.alloc (cs:=[.int .i64 0,.int .i64 0]) zeroValue191 rfl) ?_;rintro _ _ ⟨b4,rfl,rfl⟩;refine O.q 1 rfl<|O.opU rfl (.storeObj zD rfl rfl rfl rfl zB zH) ?_;refine O.nil<|S.seq<|S.frzO zB fun g hs hm h4=>?_;replace hg:=Fr.sub_trans hg hs;replace hR:=melted hR hm
   try replace ha:=ha.mono hs
   try replace hp10:=hp10.mono hs
   try replace hr10:=hr10.mono hs
   replace hm1:=meltTrans hm1 hm;clear hs hm;refine S.regionD (L:=[0,1,2,3,4,5,6,7,8,9,10,11,12,13,14,15,16,17]) mixedF zD ?_;refine .quiet (.p rfl) rfl (fun _=>.loadAgg isAgg191 zD rfl h4) ?_;refine OD.call0 (.p rfl) zD rfl zD rfl rfl (vright_c v[k] rfl) ?_;rintro _ _ ⟨rfl,rfl⟩
   try simp only [zx1,zx2,zx3]
   refine OD.sF 13 rfl (by exact hd') ?_;refine .quiet (.p rfl) rfl (fun _=>.not rfl)<|OD.q 15 rfl<|ODx.nil<|S.condT rfl<|S.seq<|S.region rfl<|O.q 1 rfl<|O.nil ?_;clear ih;refine S.ret results382 rfl fun w hw=>Holds.end_ hR hw ?_;refine ⟨_,⟨?_,rfl⟩,by repeat (first|exact zpa|exact zpn|(apply zpc;focus (repeat (first|exact zh|apply zt)))|apply zps)⟩
   congr 1;symm
   refine vecOk_none (i:=k+1) ?_;rw [Bool.eq_false_iff]
   intro e
   exact hd (hst.1 e).1
 ·clear ih
  have hk:k=v.length:=by omega
  subst hk;rw [List.take_length] at hx2;refine S.exit rfl<|S.seq<|S.region rfl<|O.q 1 rfl<|O.nil ?_;exact S.rt results382 rfl hR ⟨by rw [hx2],rfl⟩
theorem at1_c {r:Fr} {a b c:Int}:Con prog 395 #[.agg #[.int .i64 a,.int .i64 b],.int .i64 c] r [] (Ret fun u η=>u=.int .i64 (cmpZ a c)∧η=[]):=by
 refine Con.of (n:=9) _ rfl func395 rfl rfl rfl fun g hg R hR=>?_;refine S.seq<|S.region rfl<|O.opE (.p rfl) (.box (cs:=[_,_]) rfl rfl) ?_;rintro _ _ ⟨b2,rfl,rfl⟩;refine O.q 1 rfl<|O.nil<|S.seq<|S.region rfl<|O.op (.p rfl) (.fieldObj fld191x0 rfl)<|O.op (.p rfl) (.lo flat3) ?_;refine O.q 1 rfl<|O.call0 (.p rfl) rfl zD rfl rfl (compare_c _ _) ?_;rintro _ _ ⟨rfl,rfl⟩
 try simp only [zx1,zx2,zx3]
 refine O.q 1 rfl<|O.nil ?_;exact S.rt results395 rfl hR ⟨rfl,rfl⟩
theorem half_eq {s:Nat} (h:s≤18446744073709551614 / 2):IntKind.i64.wrap ((IntKind.u64.wrap (s:Int)).fdiv (2 ^ min (1:Int).toNat IntKind.u64.bits))=((s / 2:Nat):Int):=by
 have e:IntKind.u64.wrap (s:Int)=(s:Int):=by rw [wrap_u64_eq];unfold u64;omega
 rw [e,IntKind.wrap_i64];have:(2:Int) ^ min (1:Int).toNat IntKind.u64.bits=2:=by decide
 rw [this];have h2:(s:Int).fdiv 2=((s / 2:Nat):Int):=by rw [Int.fdiv_eq_ediv_of_nonneg _ zC];omega
 rw [h2];omega
theorem bsearch_c {r:Fr} {va:Value} {v:List DotT} (c:Int) (ha:Arr DotRp r va v) (hv:Rises v) (hl:v.length≤1000000000000):Con prog 394 #[va,.int .i64 c,.func (.func 395) #[] #[]] r []
  (Ret fun u η=>∃ (k:Nat) (b:Bool),u=.tuple #[.int .i64 (k:Int),.bool b]∧k≤v.length∧(b=true→∃ h:k<v.length,v[k].1=c)∧(b=false→∀ i (hi:i<v.length),v[i].1≠c)∧η=[]):=by
 refine Con.of (n:=49) _ rfl func394 rfl rfl rfl fun g hg R hR=>?_;have ha:=ha.mono hg;obtain ⟨a1,c1,rfl⟩:=ha.shape;have hlt:∀ i j (hi:i<v.length) (hj:j<v.length),i<j→v[i].1<v[j].1:=fun i j hi hj h=>List.pairwise_iff_getElem.1 hv i j hi hj h;refine S.seq<|S.region rfl<|O.q 2 rfl<|O.nil<|S.seq<|S.region rfl<|O.q 1 rfl<|O.op (.p rfl) (.len rfl underlying428 rfl)<|O.q 1 rfl<|O.nil<|S.seq<|S.region rfl<|O.q 3 rfl<|O.nil<|S.seq<|S.block<|S.loopK2 (ι:=Nat) (κ:=Nat) (fun i j=>i≤j∧j≤v.length∧(∀ q (hq:q<v.length),q<i→v[q].1<c)∧(∀ q (hq:q<v.length),j≤q→c≤v[q].1)) (fun i j=>[(9,.int .i64 (i:Int)),(10,.int .i64 (j:Int))]) [(0,_),(1,_),(2,_),(8,_)] (fun i j=>[]) (fun i j=>j - i) (0) (v.length) (by exact ⟨by omega,by omega,fun q _ h=>absurd h zC,fun q hq h=>absurd hq zC⟩) (.cons rfl (.cons rfl (.nil))) (.cons rfl (.cons rfl (.cons rfl (.cons rfl (.nil))))) rfl fun i j hx ih=>?_;have hm1:=meltRefl (g:=g);obtain ⟨hij,hjl,hlo,hhi⟩:=hx;refine S.seq<|S.seq<|S.region rfl<|O.q 2 rfl<|O.op (.p rfl) (.lss rfl rfl)<|O.nil ?_
 first|refine S.condD rfl (fun h17=>?_) (fun h17=>?_)|refine S.condB rfl (fun h17=>?_) (fun h17=>?_)
 ·have hm:(i+j) / 2<v.length:=by omega
  have hfin:cmpZ v[(i+j) / 2].1 c<0↔v[(i+j) / 2].1<c:=by unfold cmpZ;split<;>(try split)<;>omega
  refine S.skip<|S.block<|S.seq<|S.region rfl<|O.q 2 rfl<|O.op (.p rfl) (.add rfl rfl (IntWalk.i64_in _ zC))<|O.op (.p rfl) (.cvt underlying3 underlying197 rfl)<|O.op (.p rfl) (.shr rfl rfl zC)<|O.op (.p rfl) (.cvt underlying197 underlying3 rfl)<|O.slot 23 (v' :=.int .i64 (((i+j) / 2:Nat):Int)) rfl (by exact congrArg _ (half_eq (s:=i+j) zC)) ?_;refine O.q 1 rfl<|O.nil<|S.seq<|S.region rfl<|O.q 3 rfl<|O.ia (.p rfl) underlying428 size191 rfl rfl (show _=((((i+j) / 2):Nat):Int) by omega) (by first|assumption|exact Arr.mono hg zE|exact Arr.left zE|exact Arr.left (Arr.mono hg zE)) (h:=fun p27 cs27 hp27 hr27=>?_);obtain ⟨rfl,hi27,hj27⟩:=DotRp.open hr27;refine O.op (.p rfl) (.loadAgg isAgg191 zD rfl hp27) ?_;refine O.q 1 rfl<|O.call0 (.p rfl) rfl zD rfl rfl (at1_c) ?_;rintro _ _ ⟨rfl,rfl⟩
  try simp only [zx1,zx2,zx3]
  refine O.op (.p rfl) (.lss rfl rfl)<|O.nil ?_
  first|refine S.condD rfl (fun h31=>?_) (fun h31=>?_)|refine S.condB rfl (fun h31=>?_) (fun h31=>?_)
  ·have hc:=hfin.1 h31
   refine S.region rfl<|O.q 1 rfl<|O.op (.p rfl) (.add rfl rfl (IntWalk.i64_in _ zC))<|O.q 1 rfl<|O.nil (S.inBlock ?_);exact S.wk (ih ((i+j) / 2+1) (j) (by (refine ⟨by omega,by omega,fun q hq h=>?_,hhi⟩;by_cases e:q=(i+j) / 2;(subst e;exact hc);(have:=hlt q ((i+j) / 2) hq hm zC;omega))) zC)
  ·have hc:c≤v[(i+j) / 2].1:=by have:=mt hfin.2 h31;omega
   refine S.region rfl<|O.q 2 rfl<|O.nil (S.inBlock ?_);exact S.wk (ih (i) ((i+j) / 2) (by (refine ⟨by omega,by omega,hlo,fun q hq h=>?_⟩;by_cases e:q=(i+j) / 2;(subst e;exact hc);(have:=hlt ((i+j) / 2) q hm hq zC;omega))) zC)
 ·clear ih
  have e:i=j:=by omega
  subst e
  by_cases hi:i<v.length
  ·
   have hc:=hhi i hi (Nat.le_refl _);have hfin:cmpZ v[i].1 c=0↔v[i].1=c:=by unfold cmpZ;split<;>(try split)<;>omega
   refine S.exit rfl<|S.seq<|S.region rfl<|O.q 3 rfl<|O.op (.p rfl) (.lss rfl rfl)<|O.sT 38 rfl zK ?_;refine O.q 4 rfl<|O.ia (.g rfl rfl) underlying428 size191 rfl rfl rfl (by first|assumption|exact Arr.mono hg zE|exact Arr.left zE|exact Arr.left (Arr.mono hg zE)) (h:=fun p43 cs43 hp43 hr43=>?_);obtain ⟨rfl,hi43,hj43⟩:=DotRp.open hr43;refine O.op (.g rfl rfl) (.loadAgg isAgg191 zD rfl hp43) ?_;refine O.q 1 rfl<|O.call0 (.g rfl rfl) rfl zD rfl rfl (at1_c) ?_;rintro _ _ ⟨rfl,rfl⟩
   try simp only [zx1,zx2,zx3]
   refine O.op (.g rfl rfl) (.eql rfl rfl)<|O.q 3 rfl<|O.nil<|S.ret2 results394 rfl rfl fun w hw=>Holds.end_ hR hw ?_;refine ⟨_,⟨i,_,rfl,hjl,fun hb=>⟨hi,hfin.1 (by simpa using hb)⟩,fun hb q hq e=>?_,rfl⟩,by repeat (first|exact zpa|exact zpn|(apply zpc;focus (repeat (first|exact zh|apply zt)))|apply zps)⟩;have hne:¬ v[i].1=c:=fun e2=>by simp [hfin.2 e2] at hb
   rcases Nat.lt_trichotomy q i with h|h|h
   ·have:=hlo q hq h;omega
   ·subst h;exact hne e
   ·have:=hlt i q hi hq h;omega
  ·
   refine S.exit rfl<|S.seq<|S.region rfl<|O.q 3 rfl<|O.op (.p rfl) (.lss rfl rfl)<|O.sF 38 rfl zK ?_;refine O.q 12 rfl<|O.nil<|S.ret2 results394 rfl rfl fun w hw=>Holds.end_ hR hw ?_;exact pk ⟨i,false,rfl,hjl,fun h=>(by cases h),fun _ q hq e=>by have:=hlo q hq zC;omega,rfl⟩
theorem at_c {r:Fr} {va:Value} {v:List DotT} (c:Int) (ha:Arr DotRp r va v) (hv:Rises v) (hl:v.length≤1000000000000):Con prog 383 #[va,.int .i64 c] r []
  (Ret fun u η=>∃ (k:Nat) (b:Bool),u=.tuple #[.int .i64 (k:Int),.bool b]∧k≤v.length∧(b=true→∃ h:k<v.length,v[k].1=c)∧(b=false→∀ i (hi:i<v.length),v[i].1≠c)∧η=[]):=by
 refine Con.of (n:=11) _ rfl func383 rfl rfl rfl fun g hg R hR=>?_;have ha:=ha.mono hg;refine S.seq<|S.region rfl<|O.q 2 rfl<|O.nil<|S.seq<|S.region rfl<|O.q 2 rfl<|O.call0 (.p rfl) rfl zD rfl rfl (bsearch_c _ (by first|assumption|exact Arr.mono hg zE|exact Arr.left zE|exact Arr.left (Arr.mono hg zE)) zE zI) ?_;rintro v8 _ ⟨k8,b8,rfl,hk8,ht8,hf8,rfl⟩
 try simp only [zx1,zx2,zx3]
 refine O.q 4 rfl<|O.nil<|S.ret2 results383 rfl rfl fun w hw=>Holds.end_ hR hw ?_;exact pk ⟨k8,b8,rfl,hk8,ht8,hf8,rfl⟩
theorem dhas_c {r:Fr} {va:Value} {v:List DotT} {a b:Int} (d:DotT) (h:d=(a,b,())) (ha:Arr DotRp r va v) (hv:Rises v) (hl:v.length≤1000000000000):Con prog 357 #[va,.agg #[.int .i64 a,.int .i64 b]] r []
  (Ret fun u η=>u=.bool (hasM v d)∧η=[]):=by
 subst h;refine Con.of (n:=25) _ rfl func357 rfl rfl rfl fun g hg R hR=>?_;have ha:=ha.mono hg;obtain ⟨a1,c1,rfl⟩:=ha.shape;refine S.seq<|S.region rfl<|O.opE (.p rfl) (.box (cs:=[_,_]) rfl rfl) ?_;rintro _ _ ⟨b3,rfl,rfl⟩;refine O.q 1 rfl<|O.nil<|S.seq<|S.region rfl<|O.q 1 rfl<|O.op (.p rfl) (.fieldObj fld191x0 rfl)<|O.op (.p rfl) (.lo flat3) ?_;refine O.call0 (.p rfl) rfl zD rfl rfl (at_c _ (by first|assumption|exact Arr.mono hg zE|exact Arr.left zE|exact Arr.left (Arr.mono hg zE)) zE zI) ?_;rintro v11 _ ⟨k11,b11,rfl,hk11,ht11,hf11,rfl⟩
 try simp only [zx1,zx2,zx3]
 refine O.q 5 rfl<|O.nil (S.seq ?_)
 cases b11 with
 |true =>
  obtain ⟨hk,hkc⟩:=ht11 rfl;refine S.frzO zB fun g hs hm h3=>?_;replace hg:=Fr.sub_trans hg hs;replace hR:=melted hR hm
  try replace ha:=ha.mono hs
  clear hs hm;refine S.regionD (L:=[0,1,2,3,4,5,6,7,8,9,10,11]) mixedF zD ?_;refine OD.q 1 rfl<|OD.sT 14 rfl (by first|decide|simp) ?_;refine OD.q 3 rfl<|OD.ia (.g rfl rfl) underlying428 size191 rfl rfl (show _=(((k11):Nat):Int) by omega) (by first|assumption|exact Arr.mono hg zE|exact Arr.left zE|exact Arr.left (Arr.mono hg zE)) (h:=fun p18 cs18 hp18 hr18=>?_);obtain ⟨rfl,hi18,hj18⟩:=DotRp.open hr18;refine .quiet (.g rfl rfl) rfl (fun _=>.fieldAddr fld191x1 rfl)<|.quiet (.g rfl rfl) rfl (fun _=>.loadAt flat3 rfl (hp18.drop 1) rfl) ?_;refine .quiet (.g rfl rfl) rfl (fun _=>.fieldAddr fld191x1 rfl)<|.quiet (.g rfl rfl) rfl (fun _=>.loadAt flat3 rfl (h3.drop 1) rfl) ?_;refine .quiet (.g rfl rfl) rfl (fun _=>.geq rfl rfl)<|OD.q 2 rfl<|ODx.nil ?_;exact S.rt results357 rfl hR ⟨by rw [hasM_at hv hk hkc],rfl⟩
 |false =>
  refine S.frzO zB fun g hs hm h3=>?_;replace hg:=Fr.sub_trans hg hs;replace hR:=melted hR hm
  try replace ha:=ha.mono hs
  clear hs hm;refine S.regionD (L:=[0,1,2,3,4,5,6,7,8,9,10,11]) mixedF zD ?_;refine OD.q 1 rfl<|OD.sF 14 rfl (by first|decide|simp) ?_;refine OD.q 11 rfl<|ODx.nil ?_;exact S.rt results357 rfl hR ⟨by rw [hasM_no (hf11 rfl)],rfl⟩
theorem vRight_c {r:Fr} {va:Value} {v:List DotT} (ha:Arr DotRp r va v):Con prog 355 #[va] r [] (Ret fun u η=>u=.bool (vecOk v)∧η=[]):=by
 refine Con.of (n:=5) _ rfl func355 rfl rfl rfl fun g hg R hR=>?_;have ha:=ha.mono hg;refine S.seq<|S.region rfl<|O.q 1 rfl<|O.nil<|S.seq<|S.region rfl<|O.q 1 rfl<|O.call0 (.p rfl) rfl zD rfl rfl (dright_c (by first|assumption|exact Arr.mono hg zE|exact Arr.left zE|exact Arr.left (Arr.mono hg zE))) ?_;rintro _ _ ⟨rfl,rfl⟩
 try simp only [zx1,zx2,zx3]
 refine O.q 1 rfl<|O.nil ?_;exact S.rt results355 rfl hR ⟨rfl,rfl⟩
theorem vHas_c {r:Fr} {va:Value} {v:List DotT} {a b:Int} (d:DotT) (h:d=(a,b,())) (ha:Arr DotRp r va v):Con prog 333 #[va,.agg #[.int .i64 a,.int .i64 b]] r [] (Ret fun u η=>u=.bool (hasR v d)∧η=[]):=by
 subst h;refine Con.of (n:=16) _ rfl func333 rfl rfl rfl fun g hg R hR=>?_;have ha:=ha.mono hg
 cases hv:vecOk v with
 |false =>
  refine S.seq<|S.region rfl<|O.opE (.p rfl) (.box (cs:=[_,_]) rfl rfl) ?_;rintro _ _ ⟨b3,rfl,rfl⟩;refine O.q 1 rfl<|O.nil<|S.seq<|S.region rfl<|O.q 1 rfl<|O.call0 (.p rfl) rfl zD rfl rfl (vRight_c (by first|assumption|exact Arr.mono hg zE|exact Arr.left zE|exact Arr.left (Arr.mono hg zE))) ?_;rintro _ _ ⟨rfl,rfl⟩
  try simp only [zx1,zx2,zx3]
  refine O.sF 6 rfl (by exact hv) ?_;refine O.q 10 rfl<|O.nil ?_;exact S.rt results333 rfl hR ⟨by simp [hasR,hv],rfl⟩
 |true =>
  have hr:=(vecOk_iff.1 hv).2;have hl:=rises_len hv
  cases hd:dotOk (a,b,()) with
  |false =>
   refine S.seq<|S.region rfl<|O.opE (.p rfl) (.box (cs:=[_,_]) rfl rfl) ?_;rintro _ _ ⟨b3,rfl,rfl⟩;refine O.q 1 rfl<|O.nil<|S.seq<|S.region rfl<|O.q 1 rfl<|O.call0 (.p rfl) rfl zD rfl rfl (vRight_c (by first|assumption|exact Arr.mono hg zE|exact Arr.left zE|exact Arr.left (Arr.mono hg zE))) ?_;rintro _ _ ⟨rfl,rfl⟩
   try simp only [zx1,zx2,zx3]
   refine O.sT 6 rfl (by exact hv) ?_;refine O.q 1 rfl<|O.op (.g rfl rfl) (.loA (news:=[_,_]) isAgg191) ?_;refine O.call0 (.g rfl rfl) rfl zD rfl rfl (vright_c _ rfl) ?_;rintro _ _ ⟨rfl,rfl⟩
   try simp only [zx1,zx2,zx3]
   refine O.sF 9 rfl (by exact hd) ?_;refine O.q 7 rfl<|O.nil ?_;exact S.rt results333 rfl hR ⟨by simp [hasR,hd],rfl⟩
  |true =>
   refine S.seq<|S.region rfl<|O.opE (.p rfl) (.box (cs:=[_,_]) rfl rfl) ?_;rintro _ _ ⟨b3,rfl,rfl⟩;refine O.q 1 rfl<|O.nil<|S.seq<|S.region rfl<|O.q 1 rfl<|O.call0 (.p rfl) rfl zD rfl rfl (vRight_c (by first|assumption|exact Arr.mono hg zE|exact Arr.left zE|exact Arr.left (Arr.mono hg zE))) ?_;rintro _ _ ⟨rfl,rfl⟩
   try simp only [zx1,zx2,zx3]
   refine O.sT 6 rfl (by exact hv) ?_;refine O.q 1 rfl<|O.op (.g rfl rfl) (.loA (news:=[_,_]) isAgg191) ?_;refine O.call0 (.g rfl rfl) rfl zD rfl rfl (vright_c _ rfl) ?_;rintro _ _ ⟨rfl,rfl⟩
   try simp only [zx1,zx2,zx3]
   refine O.sT 9 rfl (by exact hd) ?_;refine O.q 3 rfl<|O.op (.g rfl rfl) (.loA (news:=[_,_]) isAgg191) ?_;refine O.call0 (.g rfl rfl) rfl zD rfl rfl (dhas_c _ rfl (by first|assumption|exact Arr.mono hg zE|exact Arr.left zE|exact Arr.left (Arr.mono hg zE)) zE zI) ?_;rintro _ _ ⟨rfl,rfl⟩
   try simp only [zx1,zx2,zx3]
   refine O.q 2 rfl<|O.nil ?_;exact S.rt results333 rfl hR ⟨by simp [hasR,hv,hd],rfl⟩
theorem wdot_c {r:Fr} {cs:List Value} {x:RecT} (h:RecRp.rel r cs x):Con prog 334 #[.agg cs.toArray] r [] (Ret fun v η=>v=.agg #[.int .i64 x.2.1,.int .i64 x.2.2.1]∧η=[]):=by
 obtain ⟨v3,v5,v6,rfl,k0,k1,k2,k3,k5,k6⟩:=RecRp.open h;refine Con.of (n:=10) _ rfl func334 rfl rfl rfl fun g hg R hR=>?_;refine S.seq<|S.region rfl<|O.opE (.p rfl) (.box (cs:=[_,_,_,_,_,_,_]) rfl rfl) ?_;rintro _ _ ⟨b1,rfl,rfl⟩;refine O.opE (.p rfl) (.alloc (cs:=[.int .i64 0,.int .i64 0]) zeroValue191 rfl) ?_;rintro _ _ ⟨b2,rfl,rfl⟩;refine O.nil<|S.seq<|S.region rfl<|O.op (.p rfl) (.fieldObj fld415x0 rfl)<|O.op (.p rfl) (.fieldObj fld102x1 rfl)<|O.op (.p rfl) (.lo flat3) ?_;refine O.op (.p rfl) (.fieldObj fld415x0 rfl)<|O.op (.p rfl) (.fieldObj fld102x2 rfl)<|O.op (.p rfl) (.lo flat3) ?_;refine O.op (.p rfl) (.build (cs:=[_,_]) underlying191 rfl rfl rfl rfl rfl)<|O.opU rfl (.storeObj zD rfl rfl rfl rfl zB zH) ?_;refine O.nil<|S.retCellAgg results334 isAgg191 zD rfl zB fun w hw=>Holds.end_ hR hw ?_;exact pk ⟨rfl,rfl⟩
theorem wshaped_c {r:Fr} {cs:List Value} {x:RecT} (h:RecRp.rel r cs x):Con prog 332 #[.agg cs.toArray] r [] (Ret fun v η=>v=.bool (shaped x)∧η=[]):=by
 obtain ⟨v3,v5,v6,rfl,k0,k1,k2,k3,k5,k6⟩:=RecRp.open h;refine Con.of (n:=48) _ rfl func332 rfl rfl rfl fun g hg R hR=>?_;have h:=h.mono hg;have k3:=k3.mono hg;have k5:=k5.mono hg;have k6:=k6.mono hg;obtain ⟨a3,c3,rfl⟩:=k3.shape;obtain ⟨a5,c5,rfl⟩:=k5.shape;obtain ⟨a6,c6,rfl⟩:=k6.shape
 by_cases n1:x.1.length<1
 ·have e:shaped x=false:=by unfold shaped;rw [decide_eq_false (show ¬ 1≤x.1.length by omega)];rfl
  refine S.seq<|S.region rfl<|O.opE (.p rfl) (.box (cs:=[_,_,_,_,_,_,_]) rfl rfl) ?_;rintro _ _ ⟨b1,rfl,rfl⟩;refine O.q 1 rfl<|O.nil<|S.seq<|S.block<|S.seq<|S.seq<|S.region rfl<|O.op (.p rfl) (.fieldObj fld415x0 rfl)<|O.op (.p rfl) (.fieldObj fld102x0 rfl)<|O.op (.p rfl) (.lo flat9) ?_;refine O.op (.p rfl) (.lenS rfl underlying9 rfl)<|O.op (.p rfl) (.lss rfl rfl)<|O.sT 8 rfl zK ?_;refine O.q 1 rfl<|O.nil<|S.condT rfl<|S.skip<|S.condT rfl<|S.seq<|S.region rfl<|O.q 1 rfl<|O.nil ?_;exact S.rt results332 rfl hR ⟨by rw [e],rfl⟩
 have e1:1≤x.1.length:=by omega
 by_cases n2:64<x.1.length
 ·have e:shaped x=false:=by unfold shaped;rw [decide_eq_false (show ¬ x.1.length≤64 by omega)];simp
  refine S.seq<|S.region rfl<|O.opE (.p rfl) (.box (cs:=[_,_,_,_,_,_,_]) rfl rfl) ?_;rintro _ _ ⟨b1,rfl,rfl⟩;refine O.q 1 rfl<|O.nil<|S.seq<|S.block<|S.seq<|S.seq<|S.region rfl<|O.op (.p rfl) (.fieldObj fld415x0 rfl)<|O.op (.p rfl) (.fieldObj fld102x0 rfl)<|O.op (.p rfl) (.lo flat9) ?_;refine O.op (.p rfl) (.lenS rfl underlying9 rfl)<|O.op (.p rfl) (.lss rfl rfl)<|O.sF 8 rfl zK ?_;refine O.q 1 rfl<|O.nil<|S.condF rfl<|S.seq<|S.region rfl<|O.op (.p rfl) (.fieldObj fld415x0 rfl)<|O.op (.p rfl) (.fieldObj fld102x0 rfl)<|O.op (.p rfl) (.lo flat9) ?_;refine O.op (.p rfl) (.lenS rfl underlying9 rfl)<|O.op (.p rfl) (.gtr rfl rfl)<|O.sT 13 rfl zK ?_;refine O.q 1 rfl<|O.nil<|S.condT rfl<|S.skip<|S.condT rfl<|S.seq<|S.region rfl<|O.q 1 rfl<|O.nil ?_;exact S.rt results332 rfl hR ⟨by rw [e],rfl⟩
 have e2:x.1.length≤64:=by omega
 have hv1:vecOk [rDot x]=dotOk (rDot x):=by
  cases hd:dotOk (rDot x) with
  |true=>rw [vecOk_iff];exact ⟨fun d q=>by rw [List.mem_singleton.1 q];exact hd,List.pairwise_singleton ..⟩
  |false =>
   rw [Bool.eq_false_iff]
   intro q
   have:=(vecOk_iff.1 q).1 _ (List.mem_singleton.2 rfl);rw [hd] at this;cases this
 cases e3:dotOk (rDot x) with
 |false =>
  have e:shaped x=false:=by unfold shaped;rw [e3];simp
  refine S.seq<|S.region rfl<|O.opE (.p rfl) (.box (cs:=[_,_,_,_,_,_,_]) rfl rfl) ?_;rintro _ _ ⟨b1,rfl,rfl⟩;refine O.q 1 rfl<|O.nil<|S.seq<|S.block<|S.seq<|S.seq<|S.region rfl<|O.op (.p rfl) (.fieldObj fld415x0 rfl)<|O.op (.p rfl) (.fieldObj fld102x0 rfl)<|O.op (.p rfl) (.lo flat9) ?_;refine O.op (.p rfl) (.lenS rfl underlying9 rfl)<|O.op (.p rfl) (.lss rfl rfl)<|O.sF 8 rfl zK ?_;refine O.q 1 rfl<|O.nil<|S.condF rfl<|S.seq<|S.region rfl<|O.op (.p rfl) (.fieldObj fld415x0 rfl)<|O.op (.p rfl) (.fieldObj fld102x0 rfl)<|O.op (.p rfl) (.lo flat9) ?_;refine O.op (.p rfl) (.lenS rfl underlying9 rfl)<|O.op (.p rfl) (.gtr rfl rfl)<|O.sF 13 rfl zK ?_;refine O.q 1 rfl<|O.nil<|S.condF rfl<|S.seq<|S.region rfl<|O.op (.p rfl) (.loA (news:=[_,_,_,_,_,_,_]) isAgg415) ?_;refine O.call0 (.p rfl) rfl zD rfl rfl (wdot_c (by first|assumption|exact Rp.rel.mono zE hg)) ?_;rintro _ _ ⟨rfl,rfl⟩
  try simp only [zx1,zx2,zx3]
  refine O.opE (.p rfl) (.litP (T:=DotRp) (ys:=[rDot x]) underlying100 elem191 zF rfl rfl ⟨DotRp.mk k1 k2,trivial⟩ zF) ?_;rintro _ _ ⟨a16,c16,rfl,rfl⟩;refine O.frzA zB fun g hs hm ha16=>?_;replace hg:=Fr.sub_trans hg hs;replace hR:=melted hR hm
  try replace h:=h.mono hs
  try replace k3:=k3.mono hs
  try replace k5:=k5.mono hs
  try replace k6:=k6.mono hs
  clear hs hm;refine O.call0 (.p rfl) rfl zD rfl rfl (vRight_c (by first|assumption|exact Arr.mono hg zE|exact Arr.left zE|exact Arr.left (Arr.mono hg zE))) ?_;rintro _ _ ⟨rfl,rfl⟩
  try simp only [zx1,zx2,zx3]
  refine O.sF 17 rfl (by rw [hv1,e3]) ?_;refine O.op (.p rfl) (.not rfl)<|O.q 1 rfl<|O.nil<|S.condT rfl<|S.skip<|S.condT rfl<|S.seq<|S.region rfl<|O.q 1 rfl<|O.nil ?_;exact S.rt results332 rfl hR ⟨by rw [e],rfl⟩
 |true =>
  cases e4:vecOk x.2.2.2.1 with
  |false =>
   have e:shaped x=false:=by unfold shaped;rw [e4];simp
   refine S.seq<|S.region rfl<|O.opE (.p rfl) (.box (cs:=[_,_,_,_,_,_,_]) rfl rfl) ?_;rintro _ _ ⟨b1,rfl,rfl⟩;refine O.q 1 rfl<|O.nil<|S.seq<|S.block<|S.seq<|S.seq<|S.region rfl<|O.op (.p rfl) (.fieldObj fld415x0 rfl)<|O.op (.p rfl) (.fieldObj fld102x0 rfl)<|O.op (.p rfl) (.lo flat9) ?_;refine O.op (.p rfl) (.lenS rfl underlying9 rfl)<|O.op (.p rfl) (.lss rfl rfl)<|O.sF 8 rfl zK ?_;refine O.q 1 rfl<|O.nil<|S.condF rfl<|S.seq<|S.region rfl<|O.op (.p rfl) (.fieldObj fld415x0 rfl)<|O.op (.p rfl) (.fieldObj fld102x0 rfl)<|O.op (.p rfl) (.lo flat9) ?_;refine O.op (.p rfl) (.lenS rfl underlying9 rfl)<|O.op (.p rfl) (.gtr rfl rfl)<|O.sF 13 rfl zK ?_;refine O.q 1 rfl<|O.nil<|S.condF rfl<|S.seq<|S.region rfl<|O.op (.p rfl) (.loA (news:=[_,_,_,_,_,_,_]) isAgg415) ?_;refine O.call0 (.p rfl) rfl zD rfl rfl (wdot_c (by first|assumption|exact Rp.rel.mono zE hg)) ?_;rintro _ _ ⟨rfl,rfl⟩
   try simp only [zx1,zx2,zx3]
   refine O.opE (.p rfl) (.litP (T:=DotRp) (ys:=[rDot x]) underlying100 elem191 zF rfl rfl ⟨DotRp.mk k1 k2,trivial⟩ zF) ?_;rintro _ _ ⟨a16,c16,rfl,rfl⟩;refine O.frzA zB fun g hs hm ha16=>?_;replace hg:=Fr.sub_trans hg hs;replace hR:=melted hR hm
   try replace h:=h.mono hs
   try replace k3:=k3.mono hs
   try replace k5:=k5.mono hs
   try replace k6:=k6.mono hs
   clear hs hm;refine O.call0 (.p rfl) rfl zD rfl rfl (vRight_c (by first|assumption|exact Arr.mono hg zE|exact Arr.left zE|exact Arr.left (Arr.mono hg zE))) ?_;rintro _ _ ⟨rfl,rfl⟩
   try simp only [zx1,zx2,zx3]
   refine O.sT 17 rfl (by rw [hv1,e3]) ?_;refine O.op (.p rfl) (.not rfl)<|O.q 1 rfl<|O.nil<|S.condF rfl<|S.seq<|S.region rfl<|O.op (.p rfl) (.fieldObj fld415x0 rfl)<|O.op (.p rfl) (.fieldObj fld102x3 rfl)<|O.op (.p rfl) (.lo flat100) ?_;refine O.call0 (.p rfl) rfl zD rfl rfl (vRight_c (by first|assumption|exact Arr.mono hg zE|exact Arr.left zE|exact Arr.left (Arr.mono hg zE))) ?_;rintro _ _ ⟨rfl,rfl⟩
   try simp only [zx1,zx2,zx3]
   refine O.sF 22 rfl (by exact e4) ?_;refine O.op (.p rfl) (.not rfl)<|O.q 1 rfl<|O.nil<|S.condT rfl<|S.skip<|S.condT rfl<|S.seq<|S.region rfl<|O.q 1 rfl<|O.nil ?_;exact S.rt results332 rfl hR ⟨by rw [e],rfl⟩
  |true =>
   cases e5:hasR x.2.2.2.1 (rDot x) with
   |true =>
    have e:shaped x=false:=by unfold shaped;rw [e5];simp
    refine S.seq<|S.region rfl<|O.opE (.p rfl) (.box (cs:=[_,_,_,_,_,_,_]) rfl rfl) ?_;rintro _ _ ⟨b1,rfl,rfl⟩;refine O.q 1 rfl<|O.nil<|S.seq<|S.block<|S.seq<|S.seq<|S.region rfl<|O.op (.p rfl) (.fieldObj fld415x0 rfl)<|O.op (.p rfl) (.fieldObj fld102x0 rfl)<|O.op (.p rfl) (.lo flat9) ?_;refine O.op (.p rfl) (.lenS rfl underlying9 rfl)<|O.op (.p rfl) (.lss rfl rfl)<|O.sF 8 rfl zK ?_;refine O.q 1 rfl<|O.nil<|S.condF rfl<|S.seq<|S.region rfl<|O.op (.p rfl) (.fieldObj fld415x0 rfl)<|O.op (.p rfl) (.fieldObj fld102x0 rfl)<|O.op (.p rfl) (.lo flat9) ?_;refine O.op (.p rfl) (.lenS rfl underlying9 rfl)<|O.op (.p rfl) (.gtr rfl rfl)<|O.sF 13 rfl zK ?_;refine O.q 1 rfl<|O.nil<|S.condF rfl<|S.seq<|S.region rfl<|O.op (.p rfl) (.loA (news:=[_,_,_,_,_,_,_]) isAgg415) ?_;refine O.call0 (.p rfl) rfl zD rfl rfl (wdot_c (by first|assumption|exact Rp.rel.mono zE hg)) ?_;rintro _ _ ⟨rfl,rfl⟩
    try simp only [zx1,zx2,zx3]
    refine O.opE (.p rfl) (.litP (T:=DotRp) (ys:=[rDot x]) underlying100 elem191 zF rfl rfl ⟨DotRp.mk k1 k2,trivial⟩ zF) ?_;rintro _ _ ⟨a16,c16,rfl,rfl⟩;refine O.frzA zB fun g hs hm ha16=>?_;replace hg:=Fr.sub_trans hg hs;replace hR:=melted hR hm
    try replace h:=h.mono hs
    try replace k3:=k3.mono hs
    try replace k5:=k5.mono hs
    try replace k6:=k6.mono hs
    clear hs hm;refine O.call0 (.p rfl) rfl zD rfl rfl (vRight_c (by first|assumption|exact Arr.mono hg zE|exact Arr.left zE|exact Arr.left (Arr.mono hg zE))) ?_;rintro _ _ ⟨rfl,rfl⟩
    try simp only [zx1,zx2,zx3]
    refine O.sT 17 rfl (by rw [hv1,e3]) ?_;refine O.op (.p rfl) (.not rfl)<|O.q 1 rfl<|O.nil<|S.condF rfl<|S.seq<|S.region rfl<|O.op (.p rfl) (.fieldObj fld415x0 rfl)<|O.op (.p rfl) (.fieldObj fld102x3 rfl)<|O.op (.p rfl) (.lo flat100) ?_;refine O.call0 (.p rfl) rfl zD rfl rfl (vRight_c (by first|assumption|exact Arr.mono hg zE|exact Arr.left zE|exact Arr.left (Arr.mono hg zE))) ?_;rintro _ _ ⟨rfl,rfl⟩
    try simp only [zx1,zx2,zx3]
    refine O.sT 22 rfl (by exact e4) ?_;refine O.op (.p rfl) (.not rfl)<|O.q 1 rfl<|O.nil<|S.condF rfl<|S.frzO zB fun g hs hm hbx=>?_;replace hg:=Fr.sub_trans hg hs;replace hR:=melted hR hm
    try replace h:=h.mono hs
    try replace k3:=k3.mono hs
    try replace k5:=k5.mono hs
    try replace k6:=k6.mono hs
    try replace ha16:=ha16.mono hs
    clear hs hm;refine S.regionD (L:=[0,1,2,3,4,5,6]) mixedF zD ?_;refine .quiet (.p rfl) rfl (fun _=>.fieldAddr fld415x0 rfl)<|.quiet (.p rfl) rfl (fun _=>.fieldAddr fld102x3 rfl)<|.quiet (.p rfl) rfl (fun _=>.loadAt flat100 rfl (hbx.drop 3) rfl) ?_;refine .quiet (.p rfl) rfl (fun _=>.loadAgg isAgg415 zD rfl hbx) ?_;refine OD.call0 (.p rfl) zD rfl zD rfl rfl (wdot_c (by first|assumption|exact Rp.rel.mono zE hg)) ?_;rintro _ _ ⟨rfl,rfl⟩
    try simp only [zx1,zx2,zx3]
    refine OD.call0 (.p rfl) zD rfl zD rfl rfl (vHas_c (rDot x) rfl (by first|assumption|exact Arr.mono hg zE|exact Arr.left zE|exact Arr.left (Arr.mono hg zE))) ?_;rintro _ _ ⟨rfl,rfl⟩
    try simp only [zx1,zx2,zx3]
    refine OD.sT 29 rfl (by exact e5) ?_;refine OD.q 1 rfl<|ODx.nil<|S.condT rfl<|S.seq<|S.region rfl<|O.q 1 rfl<|O.nil ?_;exact S.rt results332 rfl hR ⟨by rw [e],rfl⟩
   |false =>
    have e:shaped x=(decide (x.2.2.2.2.2.1.length≤1024) && (!x.2.2.2.2.1 ||decide (x.2.2.2.2.2.1.length=0))):=by unfold shaped;rw [decide_eq_true e1,decide_eq_true e2,e3,e4,e5];simp
    rw [e] at hR;clear e;refine S.seq<|S.region rfl<|O.opE (.p rfl) (.box (cs:=[_,_,_,_,_,_,_]) rfl rfl) ?_;rintro _ _ ⟨b1,rfl,rfl⟩;refine O.q 1 rfl<|O.nil<|S.seq<|S.block<|S.seq<|S.seq<|S.region rfl<|O.op (.p rfl) (.fieldObj fld415x0 rfl)<|O.op (.p rfl) (.fieldObj fld102x0 rfl)<|O.op (.p rfl) (.lo flat9) ?_;refine O.op (.p rfl) (.lenS rfl underlying9 rfl)<|O.op (.p rfl) (.lss rfl rfl)<|O.sF 8 rfl zK ?_;refine O.q 1 rfl<|O.nil<|S.condF rfl<|S.seq<|S.region rfl<|O.op (.p rfl) (.fieldObj fld415x0 rfl)<|O.op (.p rfl) (.fieldObj fld102x0 rfl)<|O.op (.p rfl) (.lo flat9) ?_;refine O.op (.p rfl) (.lenS rfl underlying9 rfl)<|O.op (.p rfl) (.gtr rfl rfl)<|O.sF 13 rfl zK ?_;refine O.q 1 rfl<|O.nil<|S.condF rfl<|S.seq<|S.region rfl<|O.op (.p rfl) (.loA (news:=[_,_,_,_,_,_,_]) isAgg415) ?_;refine O.call0 (.p rfl) rfl zD rfl rfl (wdot_c (by first|assumption|exact Rp.rel.mono zE hg)) ?_;rintro _ _ ⟨rfl,rfl⟩
    try simp only [zx1,zx2,zx3]
    refine O.opE (.p rfl) (.litP (T:=DotRp) (ys:=[rDot x]) underlying100 elem191 zF rfl rfl ⟨DotRp.mk k1 k2,trivial⟩ zF) ?_;rintro _ _ ⟨a16,c16,rfl,rfl⟩;refine O.frzA zB fun g hs hm ha16=>?_;replace hg:=Fr.sub_trans hg hs;replace hR:=melted hR hm
    try replace h:=h.mono hs
    try replace k3:=k3.mono hs
    try replace k5:=k5.mono hs
    try replace k6:=k6.mono hs
    clear hs hm;refine O.call0 (.p rfl) rfl zD rfl rfl (vRight_c (by first|assumption|exact Arr.mono hg zE|exact Arr.left zE|exact Arr.left (Arr.mono hg zE))) ?_;rintro _ _ ⟨rfl,rfl⟩
    try simp only [zx1,zx2,zx3]
    refine O.sT 17 rfl (by rw [hv1,e3]) ?_;refine O.op (.p rfl) (.not rfl)<|O.q 1 rfl<|O.nil<|S.condF rfl<|S.seq<|S.region rfl<|O.op (.p rfl) (.fieldObj fld415x0 rfl)<|O.op (.p rfl) (.fieldObj fld102x3 rfl)<|O.op (.p rfl) (.lo flat100) ?_;refine O.call0 (.p rfl) rfl zD rfl rfl (vRight_c (by first|assumption|exact Arr.mono hg zE|exact Arr.left zE|exact Arr.left (Arr.mono hg zE))) ?_;rintro _ _ ⟨rfl,rfl⟩
    try simp only [zx1,zx2,zx3]
    refine O.sT 22 rfl (by exact e4) ?_;refine O.op (.p rfl) (.not rfl)<|O.q 1 rfl<|O.nil<|S.condF rfl<|S.frzO zB fun g hs hm hbx=>?_;replace hg:=Fr.sub_trans hg hs;replace hR:=melted hR hm
    try replace h:=h.mono hs
    try replace k3:=k3.mono hs
    try replace k5:=k5.mono hs
    try replace k6:=k6.mono hs
    try replace ha16:=ha16.mono hs
    clear hs hm;refine S.regionD (L:=[0,1,2,3,4,5,6]) mixedF zD ?_;refine .quiet (.p rfl) rfl (fun _=>.fieldAddr fld415x0 rfl)<|.quiet (.p rfl) rfl (fun _=>.fieldAddr fld102x3 rfl)<|.quiet (.p rfl) rfl (fun _=>.loadAt flat100 rfl (hbx.drop 3) rfl) ?_;refine .quiet (.p rfl) rfl (fun _=>.loadAgg isAgg415 zD rfl hbx) ?_;refine OD.call0 (.p rfl) zD rfl zD rfl rfl (wdot_c (by first|assumption|exact Rp.rel.mono zE hg)) ?_;rintro _ _ ⟨rfl,rfl⟩
    try simp only [zx1,zx2,zx3]
    refine OD.call0 (.p rfl) zD rfl zD rfl rfl (vHas_c (rDot x) rfl (by first|assumption|exact Arr.mono hg zE|exact Arr.left zE|exact Arr.left (Arr.mono hg zE))) ?_;rintro _ _ ⟨rfl,rfl⟩
    try simp only [zx1,zx2,zx3]
    refine OD.sF 29 rfl (by exact e5) ?_;refine OD.q 1 rfl<|ODx.nil<|S.condF rfl<|S.skip (S.inBlock (S.seq ?_))
    by_cases n6:1024<x.2.2.2.2.2.1.length
    ·
     refine S.region rfl<|O.op (.p rfl) (.fieldAddr fld415x0 rfl)<|O.op (.p rfl) (.fieldAddr fld102x5 rfl)<|O.op (.p rfl) (.loadAt flat24 rfl (hbx.drop 5) rfl) ?_;refine O.op (.p rfl) (.len rfl underlying24 rfl)<|O.op (.p rfl) (.leq rfl rfl)<|O.sF 34 rfl zK ?_;refine O.q 14 rfl<|O.nil ?_;exact S.rt results332 rfl hR ⟨by rw [decide_eq_false (show ¬ x.2.2.2.2.2.1.length≤1024 by omega)];rfl,rfl⟩
    have e6:x.2.2.2.2.2.1.length≤1024:=by omega
    cases e7:x.2.2.2.2.1 with
    |false =>
     refine S.region rfl<|O.op (.p rfl) (.fieldAddr fld415x0 rfl)<|O.op (.p rfl) (.fieldAddr fld102x5 rfl)<|O.op (.p rfl) (.loadAt flat24 rfl (hbx.drop 5) rfl) ?_;refine O.op (.p rfl) (.len rfl underlying24 rfl)<|O.op (.p rfl) (.leq rfl rfl)<|O.sT 34 rfl zK ?_;refine O.q 1 rfl<|O.op (.g rfl rfl) (.fieldAddr fld415x0 rfl)<|O.op (.g rfl rfl) (.fieldAddr fld102x4 rfl)<|O.op (.g rfl rfl) (.loadAt flat4 rfl (hbx.drop 4) rfl) ?_;refine O.slot 38 (v' :=.bool false) rfl (by rw [e7]) ?_;refine O.op (.g rfl rfl) ((by first|exact .notD rfl|exact .not rfl)) ?_;refine O.sT 39 rfl zG ?_;refine O.q 9 rfl<|O.nil ?_;exact S.rt results332 rfl hR ⟨by rw [decide_eq_true e6,e7];rfl,rfl⟩
    |true =>
     refine S.region rfl<|O.op (.p rfl) (.fieldAddr fld415x0 rfl)<|O.op (.p rfl) (.fieldAddr fld102x5 rfl)<|O.op (.p rfl) (.loadAt flat24 rfl (hbx.drop 5) rfl) ?_;refine O.op (.p rfl) (.len rfl underlying24 rfl)<|O.op (.p rfl) (.leq rfl rfl)<|O.sT 34 rfl zK ?_;refine O.q 1 rfl<|O.op (.g rfl rfl) (.fieldAddr fld415x0 rfl)<|O.op (.g rfl rfl) (.fieldAddr fld102x4 rfl)<|O.op (.g rfl rfl) (.loadAt flat4 rfl (hbx.drop 4) rfl) ?_;refine O.slot 38 (v' :=.bool true) rfl (by rw [e7]) ?_;refine O.op (.g rfl rfl) ((by first|exact .notD rfl|exact .not rfl)) ?_;refine O.sF 39 rfl zG ?_;refine O.q 1 rfl<|O.op (.g rfl rfl) (.fieldAddr fld415x0 rfl)<|O.op (.g rfl rfl) (.fieldAddr fld102x5 rfl)<|O.op (.g rfl rfl) (.loadAt flat24 rfl (hbx.drop 5) rfl) ?_;refine O.op (.g rfl rfl) (.len rfl underlying24 rfl)<|O.op (.g rfl rfl) (.eql rfl rfl)<|O.q 3 rfl<|O.nil ?_;exact S.rt results332 rfl hR ⟨by rw [decide_eq_true e6,e7];simp,rfl⟩
end Go.Proofs.YtojafegjlahajaaGreatDoor
