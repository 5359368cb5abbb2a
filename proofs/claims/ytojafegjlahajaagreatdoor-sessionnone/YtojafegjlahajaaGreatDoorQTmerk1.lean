/- Texts of this proof. -/
import Derived.Test.YtojafegjlahajaaGreatDoorQSha3
import Derived.Test.YtojafegjlahajaaGreatDoorQSpZero
import Derived.Test.YtojafegjlahajaaGreatDoorQEvid1
open Go Go.Sp Go.Proofs.Tryz
set_option maxRecDepth 100000
set_option maxHeartbeats 1000000
attribute [local irreducible] obj Own OwnP
namespace Go.Proofs.YtojafegjlahajaaGreatDoor
theorem hashC_nil:hashC [] none 0=w64s shaH++[.slice none 0 0,.int .u64 0,.bool true]:=by
 rw [hashC,show feed shaH []=shaH from rfl];rfl
theorem new_c {r:Fr} (hH:At r ⟨0,0,none⟩ (w64s shaH)):Con prog 126 #[] r [] (Ret fun v η=>∃ b,v=.pointer (some ⟨b,0,none⟩)∧η=[obj b 278 (hashC [] none 0)]):=by
 refine Con.of (n:=4) _ rfl func126 rfl rfl rfl fun g hg R hR=>?_;have hH:=hH.mono hg;refine S.seq<|S.region rfl<|O.q 1 rfl<|O.nil<|S.seq<|S.region rfl<|O.op (.p rfl) (.loadAgg isAgg276 zD rfl hH) ?_;refine O.op (.p rfl) (.build (cs:=[_,_,_,_,_,_,_,_,_,_,_]) underlying278 rfl rfl rfl rfl rfl)<|O.opE (.p rfl) (.box (cs:=[_,_,_,_,_,_,_,_,_,_,_]) rfl rfl) ?_;rintro _ _ ⟨b3,rfl,rfl⟩;refine O.q 1 rfl<|O.nil<|S.objIs (b:=b3) (cs' :=hashC [] none 0) zC (by rw [hashC_nil];rfl) ?_;exact S.rt results126 rfl hR ⟨b3,rfl,rfl⟩
theorem copyH_c {r:Fr} {b:Nat} {M:List UInt8} {a:Option Addr} {c:Nat} (h:At r ⟨b,0,none⟩ (hashC M a c)) (hl:Arr Rp.u8 r (.slice a (remB M).length c) (remB M)) :
  Con prog 212 #[.pointer (some ⟨b,0,none⟩)] r [] (Ret fun v η=>∃ b' a' c',v=.pointer (some ⟨b',0,none⟩)∧η=[obj b' 278 (hashC M a' c'),OwnP Rp.u8 5 (.slice a' (remB M).length c') (remB M)]):=by
 obtain ⟨x0,x1,x2,x3,x4,x5,x6,x7,hx,hc⟩:=hashC_x M a c;have hrl:(remB M).length<128:=by rw [remB_len];omega
 have h0:=h;rw [hc] at h;refine Con.of (n:=16) _ rfl func212 rfl rfl rfl fun g hg R hR=>?_;have h:=h.mono hg;have h0:=h0.mono hg;have hl:=hl.mono hg;refine S.seq<|S.region rfl<|O.q 1 rfl<|O.nil<|S.seq<|S.seq<|S.region rfl<|O.q 1 rfl<|O.call0 (.p rfl) rfl zD rfl rfl ((there_c h0)) ?_;rintro _ _ ⟨rfl,rfl⟩
 try simp only [zx1,zx2,zx3]
 refine O.sT 5 rfl zF ?_;refine O.op (.p rfl) (.not rfl)<|O.nil<|S.condF rfl<|S.skip<|S.seq<|S.region rfl<|O.q 1 rfl<|O.op (.p rfl) (.nilCheck rfl)<|O.op (.p rfl) (.loadAgg isAgg278 zD rfl h) ?_;refine O.opE (.p rfl) (.alloc (cs:=[.int .u64 0,.int .u64 0,.int .u64 0,.int .u64 0,.int .u64 0,.int .u64 0,.int .u64 0,.int .u64 0,.slice none 0 0,.int .u64 0,.bool false]) zeroValue278 rfl) ?_;rintro _ _ ⟨b3,rfl,rfl⟩;refine O.opU rfl (.storeObj zD rfl rfl rfl rfl zC zO) ?_;refine O.nil<|S.seq<|S.region rfl<|O.q 1 rfl<|O.op (.p rfl) (.nilCheck rfl)<|O.op (.p rfl) (.fieldAddr fld278x1 rfl)<|O.op (.p rfl) (.loadAt flat24 rfl (h.drop 8) rfl) ?_;refine O.call0 (.p rfl) rfl zD rfl rfl ((cloneB_c hl zB)) ?_;rintro _ _ ⟨a14,c14,rfl,rfl⟩
 try simp only [zx1,zx2,zx3]
 refine O.op (.p rfl) (.fieldObj fld278x1 rfl)<|O.opU rfl (.store1 flat24 rfl rfl zQ zC zO) ?_;refine O.nil<|S.seq<|S.region rfl<|O.q 1 rfl<|O.nil<|S.objIs (b:=b3) (cs' :=hashC M a14 c14) zC (by rw [hashC,hx];rfl) ?_;exact S.rt results212 rfl hR ⟨b3,a14,c14,rfl,rfl⟩
theorem be_take8 (n:Int) (j:Nat) (h:j<8):(be n).take j++[beAt n (7 - j)]=(be n).take (j+1):=by
 match j,h with
 |0,_|1,_|2,_|3,_|4,_|5,_|6,_|7,_=>rfl
theorem be_take_l (n:Int) (j:Nat) (h:j≤8):((be n).take j).length=j:=by rw [List.length_take,be_length];omega
theorem shiftN {N:Nat} (hN:N<18446744073709551616) {j:Nat} (hj:j<8):Value.int .u8 (IntKind.u8.wrap ((N:Int).fdiv (2 ^ min ((56:Int) - ((8*j:Nat):Int)).toNat IntKind.u64.bits)))=byteV (beAt (N:Int) (7 - j)):=by
 have:=shift_byte (N:Int) (7 - j) zB ((56:Int) - ((8*j:Nat):Int)) zB;rw [wrapN hN] at this;rw [this];rfl
theorem pad_snoc (z:Nat):(128:UInt8)::List.replicate z 0++[0]=128::List.replicate (z+1) 0:=by
 rw [List.cons_append,← List.replicate_succ']
theorem outB_snoc {ws:List U64} {k:Nat} (h:k<ws.length):outB (ws.take k)++outW ws[k]=outB (ws.take (k+1)):=by
 rw [List.take_succ_eq_append_getElem h];unfold outB;rw [List.map_append,List.flatten_append];simp
theorem sumH_c {r:Fr} {b:Nat} {M:List UInt8} {a:Option Addr} {c:Nat} (h:At r ⟨b,0,none⟩ (hashC M a c)) (hl:Arr Rp.u8 r (.slice a (remB M).length c) (remB M)) (hK:At r ⟨1,0,none⟩ (w64s shaK)) (hm:M.length≤100000000000) :
  Con prog 128 #[.pointer (some ⟨b,0,none⟩)] r [] (Ret fun v η=>∃ a' c',v=.slice a' 64 c' ∧η=[OwnP Rp.u8 5 (.slice a' 64 c') (shaSum M)]):=by
 obtain ⟨x0,x1,x2,x3,x4,x5,x6,x7,hx,hc0⟩:=hashC_x M a c;clear hx hc0 x0 x1 x2 x3 x4 x5 x6 x7;have hrm:(remB M).length=M.length % 128:=remB_len M;have hpn:padN M.length<128:=by unfold padN;omega
 refine Con.of (n:=73) _ rfl func128 rfl rfl rfl fun g hg R hR=>?_;have h:=h.mono hg;have hl:=hl.mono hg;have hK:=hK.mono hg;refine S.seq<|S.region rfl<|O.q 1 rfl<|O.nil<|S.seq<|S.region rfl<|O.q 1 rfl<|O.call0 (.p rfl) rfl zD rfl rfl ((copyH_c h hl)) ?_;rintro _ _ ⟨b12,a12,c12,rfl,rfl⟩
 try simp only [zx1,zx2,zx3]
 refine O.q 1 rfl<|O.nil<|S.seq<|S.seq<|S.region rfl<|O.q 1 rfl<|O.op (.p rfl) (.eqlP underlying192 rfl rfl)<|O.sF 14 rfl zF ?_;refine O.nil<|S.condF rfl<|S.skip (S.seq ?_);obtain ⟨x0,x1,x2,x3,x4,x5,x6,x7,hx,hc⟩:=hashC_x M a12 c12;refine S.objIs (b:=b12) (cs' :=[.int .u64 (x0.toNat:Int),.int .u64 (x1.toNat:Int),.int .u64 (x2.toNat:Int),.int .u64 (x3.toNat:Int),.int .u64 (x4.toNat:Int),.int .u64 (x5.toNat:Int),.int .u64 (x6.toNat:Int),.int .u64 (x7.toNat:Int),.slice a12 (remB M).length c12,.int .u64 (M.length:Int),.bool true]) zC hc ?_;refine S.region rfl<|O.q 1 rfl<|O.op (.p rfl) (.nilCheck rfl)<|O.op (.p rfl) (.fieldObj fld278x2 rfl)<|O.op (.p rfl) (.lo flat274) ?_;refine O.op (.p rfl) (.mulW rfl rfl)<|O.slot 19 (v' :=.int .u64 ((8*M.length:Nat):Int)) rfl (by exact congrArg _ (by rw [show (8:Int)*(M.length:Int)=((8*M.length:Nat):Int) from by omega,wrapN zB])) ?_;refine O.q 1 rfl<|O.nil<|S.seq<|S.region rfl<|O.opE (.p rfl) (.makeP0 (T:=Rp.u8) (c:=256) underlying24 elem5 rfl rfl rfl rfl zE zE) ?_;rintro _ _ ⟨a20,c20,rfl,rfl⟩;refine O.opE (.p rfl) (.litP (T:=Rp.u8) (ys:=[128]) underlying24 elem5 zE rfl rfl ⟨rfl,trivial⟩ zE) ?_;rintro _ _ ⟨a21,c21,rfl,rfl⟩;refine O.opE (.p rfl) (.appendO (T:=Rp.u8) underlying24 elem5 zE rfl rfl zC zC zG zG) ?_;rintro _ _ ⟨a22,c22,rfl,rfl⟩
 refine O.q 1 rfl<|O.nil<|S.seq<|S.block<|S.loopK2 (ι:=Nat) (κ:=Option Addr × Nat) (fun z s=>z≤padN M.length) (fun z s=>[(5,.slice s.1 (1+z) s.2)]) [(3,_),(4,_)] (fun z s=>[OwnP Rp.u8 5 (.slice s.1 (1+z) s.2) (128::List.replicate z 0),obj b12 278 [.int .u64 (x0.toNat:Int),.int .u64 (x1.toNat:Int),.int .u64 (x2.toNat:Int),.int .u64 (x3.toNat:Int),.int .u64 (x4.toNat:Int),.int .u64 (x5.toNat:Int),.int .u64 (x6.toNat:Int),.int .u64 (x7.toNat:Int),.slice a12 (remB M).length c12,.int .u64 (M.length:Int),.bool true],OwnP Rp.u8 5 (.slice a12 (remB M).length c12) (remB M)]) (fun z s=>padN M.length - z) (0) ((a22,c22)) zH (.cons rfl (.nil)) (.cons rfl (.cons rfl (.nil))) rfl fun z s hx ih=>?_;have hm1:=meltRefl (g:=g);refine S.seq<|S.seq<|S.region rfl<|O.q 1 rfl<|O.op (.p rfl) (.nilCheck rfl)<|O.op (.p rfl) (.fieldObj fld278x1 rfl)<|O.op (.p rfl) (.lo flat24) ?_;refine O.op (.p rfl) (.len rfl underlying24 rfl)<|O.q 1 rfl<|O.op (.p rfl) (.len rfl underlying24 rfl)<|O.op (.p rfl) (.add rfl rfl (IntWalk.i64_in _ zB))<|O.op (.p rfl) (.rem rfl rfl zB)<|O.slot 31 (v' :=.int .i64 (((M.length % 128+(1+z)) % 128:Nat):Int)) rfl (by exact congrArg (Value.int .i64) (by rw [hrm,Int.tmod_eq_emod_of_nonneg zB];omega)) ?_;refine O.op (.p rfl) (.neq rfl rfl)<|O.nil ?_
 first|refine S.condD rfl (fun h32=>?_) (fun h32=>?_)|refine S.condB rfl (fun h32=>?_) (fun h32=>?_)
 ·have hz:z<padN M.length:=by unfold padN at *;omega
  refine S.skip<|S.block<|S.region rfl<|O.q 1 rfl<|O.opE (.p rfl) (.litP (T:=Rp.u8) (ys:=[0]) underlying24 elem5 zE rfl rfl ⟨rfl,trivial⟩ zE) ?_;rintro _ _ ⟨a34,c34,rfl,rfl⟩;refine O.opE (.p rfl) (.appendO (T:=Rp.u8) underlying24 elem5 zE rfl rfl zC zC zG zG) ?_;rintro _ _ ⟨a35,c35,rfl,rfl⟩;refine O.q 1 rfl<|O.nil (S.inBlock ?_);rw [pad_snoc];have hlz:(128::List.replicate z (0:UInt8)).length=1+z:=by rw [List.length_cons,List.length_replicate];omega
  simp only [hlz,List.length_singleton];exact S.pw (ih (z+1) ((a35,c35)) zB zB)
 ·clear ih
  have hz:z=padN M.length:=by unfold padN at *;omega
  subst hz;have hlz:(128::List.replicate (padN M.length) (0:UInt8)).length=1+padN M.length:=by rw [List.length_cons,List.length_replicate];omega
  refine S.exit rfl<|S.seq<|S.region rfl<|O.q 1 rfl<|O.opE (.p rfl) (.appendZ (T:=Rp.u8) (a:=(0:UInt8)) (m:=8) underlying24 underlying3 elem5 zE rfl rfl rfl rfl zC (by rw [hlz];omega) (by rw [hlz];omega) (by rw [hlz];omega)) ?_;rintro _ _ ⟨a37,c37,rfl,rfl⟩;refine O.q 1 rfl<|O.nil (S.seq (S.seq ?_));have hlp:(128::List.replicate (padN M.length) (0:UInt8)++List.replicate 8 0).length=9+padN M.length:=by rw [List.length_append,hlz,List.length_replicate];omega
  have hpB:padB M.length=128::List.replicate (padN M.length) (0:UInt8)++List.replicate 8 0++be (8*(M.length:Int)):=rfl;rw [show (128::List.replicate (padN M.length) (0:UInt8)).length+8=9+padN M.length from by rw [hlz];omega];generalize 128::List.replicate (padN M.length) (0:UInt8)++List.replicate 8 0=E at hlp hpB ⊢;generalize padN M.length=pn at hlp hpn ⊢;refine S.ownIs (T:=Rp.u8) (e:=5) (v' :=.slice a37 (9+pn) c37) (xs' :=E++(be (8*(M.length:Int))).take 0) zC rfl zH ?_;refine S.region rfl<|O.q 1 rfl<|O.nil<|S.block<|S.loopK2 (ι:=Nat) (κ:=Option Addr × Nat) (fun j s=>j≤8) (fun j s=>[(6,.int .i64 ((56:Int) - ((8*j:Nat):Int))),(5,.slice s.1 (9+pn+j) s.2)]) [(3,_),(4,_)] (fun j s=>[OwnP Rp.u8 5 (.slice s.1 (9+pn+j) s.2) (E++(be (8*(M.length:Int))).take j),obj b12 278 [.int .u64 (x0.toNat:Int),.int .u64 (x1.toNat:Int),.int .u64 (x2.toNat:Int),.int .u64 (x3.toNat:Int),.int .u64 (x4.toNat:Int),.int .u64 (x5.toNat:Int),.int .u64 (x6.toNat:Int),.int .u64 (x7.toNat:Int),.slice a12 (remB M).length c12,.int .u64 (M.length:Int),.bool true],OwnP Rp.u8 5 (.slice a12 (remB M).length c12) (remB M)]) (fun j s=>8 - j) (0) ((a37,c37)) zH (.cons rfl (.cons rfl (.nil))) (.cons rfl (.cons rfl (.nil))) rfl fun j s hx ih=>?_;have hm2:=meltRefl (g:=g);refine S.seq<|S.seq<|S.region rfl<|O.q 1 rfl<|O.op (.p rfl) (.geq rfl rfl)<|O.nil ?_
  first|refine S.condD rfl (fun h39=>?_) (fun h39=>?_)|refine S.condB rfl (fun h39=>?_) (fun h39=>?_)
  ·have hj:j<8:=by omega
   have hlj:=be_take_l (8*(M.length:Int)) j zB;refine S.skip<|S.seq<|S.block<|S.region rfl<|O.q 3 rfl<|O.op (.p rfl) (.shr rfl rfl zB)<|O.op (.p rfl) (.cvt underlying274 underlying5 rfl)<|O.slot 46 (v' :=byteV (beAt (8*(M.length:Int)) (7 - j))) rfl (by exact (shiftN (N:=8*M.length) zB hj).trans (by rw [show ((8*M.length:Nat):Int)=8*(M.length:Int) from by omega])) ?_;refine O.opE (.p rfl) (.litP (T:=Rp.u8) (ys:=[beAt (8*(M.length:Int)) (7 - j)]) underlying24 elem5 zE rfl rfl ⟨rfl,trivial⟩ zE) ?_;rintro _ _ ⟨a47,c47,rfl,rfl⟩;refine O.opE (.p rfl) (.appendO (T:=Rp.u8) underlying24 elem5 zE rfl rfl zC zC zG zG) ?_;rintro _ _ ⟨a48,c48,rfl,rfl⟩;refine O.q 1 rfl<|O.nil<|S.inBlock<|S.region rfl<|O.q 1 rfl<|O.op (.p rfl) (.sub rfl rfl (IntWalk.i64_in _ zB))<|O.slot 41 (v' :=.int .i64 ((56:Int) - ((8*(j+1):Nat):Int))) rfl (by exact congrArg (Value.int .i64) zB) ?_;refine O.q 1 rfl<|O.nil ?_;rw [List.append_assoc,be_take8 _ j hj]
   try simp only [List.length_append,hlp,hlj,List.length_singleton]
   exact S.pw (ih (j+1) ((a48,c48)) zB zB)
  ·clear ih
   have hj:j=8:=by omega
   subst hj;rw [show (be (8*(M.length:Int))).take 8=be (8*(M.length:Int)) from rfl,← hpB];have hpl:(padB M.length).length=9+pn+8:=by rw [hpB,List.length_append,hlp,be_length]
   rw [← hpl];refine S.objIs (b:=b12) (cs' :=hashC M a12 c12) zC hc.symm ?_;refine S.exit rfl<|S.seq<|S.frzA zC fun g hs hm hE=>?_;replace hg:=Fr.sub_trans hg hs;replace hR:=melted hR hm
   try replace h:=h.mono hs
   try replace hl:=hl.mono hs
   try replace hK:=hK.mono hs
   replace hm1:=meltTrans hm1 hm;replace hm2:=meltTrans hm2 hm;clear hs hm;refine S.region rfl<|O.q 2 rfl<|O.opE (.p rfl) (.litP (T:=Rp.cells 1) (ys:=[[.slice s.1 (padB M.length).length s.2]]) underlying109 elem24 zE rfl rfl ⟨⟨rfl,rfl,by first|(simp;done)|(intro v hv;simp [Value.cells] at hv;rcases hv with rfl|rfl<;>rfl)|(refine List.forall_mem_cons.2 ⟨rfl,?_⟩;repeat (first|exact (fun _ h=>absurd h List.not_mem_nil)|refine List.forall_mem_cons.2 ⟨rfl,?_⟩))⟩,trivial⟩ zE) ?_;rintro _ _ ⟨a51,c51,rfl,rfl⟩;refine O.frzA zC fun g hs hm ha51=>?_;replace hg:=Fr.sub_trans hg hs;replace hR:=melted hR hm
   try replace h:=h.mono hs
   try replace hl:=hl.mono hs
   try replace hK:=hK.mono hs
   try replace hE:=hE.mono hs
   replace hm1:=meltTrans hm1 hm;replace hm2:=meltTrans hm2 hm;clear hs hm;refine O.callSs (.p rfl) rfl zD rfl rfl zI (write_c (ps:=[padB M.length]) (Arr.ofCells ha51 ⟨⟨_,rfl,hE⟩,trivial⟩ rfl) hK (by simp only [List.flatten_cons,List.flatten_nil,List.append_nil];omega)) ?_;rintro _ _ ⟨a52,c52,rfl,rfl⟩
   try simp only [zx1,zx2,zx3]
   refine O.nil (S.seq ?_);rw [show M++[padB M.length].flatten=M++padB M.length from by simp];refine S.frzA zC fun g hs hm hz1=>?_;replace hg:=Fr.sub_trans hg hs;replace hR:=melted hR hm
   try replace h:=h.mono hs
   try replace hl:=hl.mono hs
   try replace hK:=hK.mono hs
   try replace hE:=hE.mono hs
   try replace ha51:=ha51.mono hs
   replace hm1:=meltTrans hm1 hm;replace hm2:=meltTrans hm2 hm;clear hs hm;obtain ⟨y0,y1,y2,y3,y4,y5,y6,y7,hy,hyc⟩:=hashC_x (M++padB M.length) a52 c52;refine S.objIs (b:=b12) (cs' :=[.int .u64 (y0.toNat:Int),.int .u64 (y1.toNat:Int),.int .u64 (y2.toNat:Int),.int .u64 (y3.toNat:Int),.int .u64 (y4.toNat:Int),.int .u64 (y5.toNat:Int),.int .u64 (y6.toNat:Int),.int .u64 (y7.toNat:Int),.slice a52 (remB (M++padB M.length)).length c52,.int .u64 ((M++padB M.length).length:Int),.bool true]) zC hyc ?_;refine S.frzO zC fun g hs hm hob=>?_;replace hg:=Fr.sub_trans hg hs;replace hR:=melted hR hm
   try replace h:=h.mono hs
   try replace hl:=hl.mono hs
   try replace hK:=hK.mono hs
   try replace hE:=hE.mono hs
   try replace ha51:=ha51.mono hs
   try replace hz1:=hz1.mono hs
   replace hm1:=meltTrans hm1 hm;replace hm2:=meltTrans hm2 hm;clear hs hm;have hsum:shaSum M=outB (feed shaH (M++padB M.length)):=rfl;have hwl:(feed shaH (M++padB M.length)).length=8:=feed_len _ _ rfl;generalize feed shaH (M++padB M.length)=ws at hy hwl hsum;refine S.addNil (T:=Rp.u8) (e:=5) ?_;refine S.region rfl<|O.q 1 rfl<|O.nil<|S.seq<|S.seq<|S.region rfl<|O.q 1 rfl<|O.op (.p rfl) (.nilCheck rfl)<|O.op (.p rfl) (.fieldAddr fld278x0 rfl)<|O.op (.p rfl) (.loadAgg (cs:=[_,_,_,_,_,_,_,_]) isAgg276 zD rfl (hob.take 8)) ?_;refine O.slot 56 (v' :=.agg (w64s ws).toArray) rfl (by rw [hy];rfl) ?_;refine O.q 1 rfl<|O.nil<|S.block<|S.loopK2 (ι:=Nat) (κ:=Option Addr × Nat) (fun k s=>k≤8) (fun k s=>[(57,.int .i64 (k:Int)),(7,.slice s.1 (8*k) s.2)]) [(56,_)] (fun k s=>[OwnP Rp.u8 5 (.slice s.1 (8*k) s.2) (outB (ws.take k))]) (fun k s=>8 - k) (0) ((none,0)) zH (.cons rfl (.cons rfl (.nil))) (.cons rfl (.nil)) rfl fun k s hx ih=>?_;have hm3:=meltRefl (g:=g);refine S.seq<|S.region rfl<|O.op (.p rfl) (.lss rfl rfl)<|O.nil (S.seq ?_)
   first|refine S.condD rfl (fun h58=>?_) (fun h58=>?_)|refine S.condB rfl (fun h58=>?_) (fun h58=>?_)
   ·have hk:k<8:=by omega
    have hkw:k<ws.length:=by omega
    have hol:(outB (ws.take k)).length=8*k:=by rw [outB_len,List.length_take];omega
    have hsn:=outB_snoc hkw;refine S.skip<|S.seq<|S.block<|S.seq<|S.region rfl<|O.op (.p rfl) (.indexArr (j:=k) underlying276 size274 flat274 rfl rfl rfl zB (by rw [List.getElem?_toArray];exact w64s_get hkw)) ?_;refine O.slot 59 (v' :=w64 ws[k]) rfl (by exact congrArg w64 (by simp [List.getD_eq_getElem?_getD,hkw])) ?_;refine O.q 1 rfl<|O.nil (S.seq ?_);generalize ws[k]=x at hsn ⊢;refine S.ownIs (T:=Rp.u8) (e:=5) (v' :=.slice s.1 (8*k+0) s.2) (xs' :=outB (ws.take k)++(outW x).take 0) zC rfl zH ?_;refine S.region rfl<|O.q 1 rfl<|O.nil<|S.block<|S.loopK2 (ι:=Nat) (κ:=Option Addr × Nat) (fun j u=>j≤8) (fun j u=>[(10,.int .i64 ((56:Int) - ((8*j:Nat):Int))),(7,.slice u.1 (8*k+j) u.2)]) [(9,_),(56,_),(57,_)] (fun j u=>[OwnP Rp.u8 5 (.slice u.1 (8*k+j) u.2) (outB (ws.take k)++(outW x).take j)]) (fun j u=>8 - j) (0) (s) zH (.cons rfl (.cons rfl (.nil))) (.cons rfl (.cons rfl (.cons rfl (.nil)))) rfl fun j u hx ih=>?_;have hm4:=meltRefl (g:=g);refine S.seq<|S.seq<|S.region rfl<|O.q 1 rfl<|O.op (.p rfl) (.geq rfl rfl)<|O.nil ?_
    first|refine S.condD rfl (fun h61=>?_) (fun h61=>?_)|refine S.condB rfl (fun h61=>?_) (fun h61=>?_)
    ·have hj:j<8:=by omega
     have hlj:=be_take_l (x.toNat:Int) j zB;have hxl:=x.toNat_lt;have htk:(outB (ws.take k)++(outW x).take j).length=8*k+j:=by rw [List.length_append,hol,outW,hlj]
     refine S.skip<|S.seq<|S.block<|S.region rfl<|O.q 3 rfl<|O.op (.p rfl) (.shr rfl rfl zB)<|O.op (.p rfl) (.cvt underlying274 underlying5 rfl)<|O.slot 68 (v' :=byteV (beAt (x.toNat:Int) (7 - j))) rfl (by exact shiftN (N:=x.toNat) zB hj) ?_;refine O.opE (.p rfl) (.litP (T:=Rp.u8) (ys:=[beAt (x.toNat:Int) (7 - j)]) underlying24 elem5 zE rfl rfl ⟨rfl,trivial⟩ zE) ?_;rintro _ _ ⟨a69,c69,rfl,rfl⟩;refine O.opE (.p rfl) (.appendO (T:=Rp.u8) underlying24 elem5 zE rfl rfl zC zC zG zG) ?_;rintro _ _ ⟨a70,c70,rfl,rfl⟩;refine O.q 1 rfl<|O.nil<|S.inBlock<|S.region rfl<|O.q 1 rfl<|O.op (.p rfl) (.sub rfl rfl (IntWalk.i64_in _ zB))<|O.slot 63 (v' :=.int .i64 ((56:Int) - ((8*(j+1):Nat):Int))) rfl (by exact congrArg (Value.int .i64) zB) ?_;refine O.q 1 rfl<|O.nil ?_;rw [List.append_assoc,show (outW x).take j++[beAt (x.toNat:Int) (7 - j)]=(outW x).take (j+1) from be_take8 _ j hj]
     try simp only [List.length_append,hol,outW,hlj,List.length_singleton]
     exact S.pw (ih (j+1) ((a70,c70)) zB zB)
    ·clear ih
     have hj:j=8:=by omega
     subst hj;rw [show (outW x).take 8=outW x from rfl,hsn];refine S.exit rfl<|S.inBlock<|S.region rfl<|O.op (.p rfl) (.add rfl rfl (IntWalk.i64_in _ zB))<|O.q 1 rfl<|O.nil ?_;exact S.pw (ih (k+1) (u) zB zB)
   ·clear ih
    have hk:k=8:=by omega
    subst hk;rw [show ws.take 8=ws from List.take_of_length_le zB,← hsum];refine S.exit rfl<|S.seq<|S.region rfl<|O.q 2 rfl<|O.nil ?_;exact S.rt results128 rfl hR ⟨s.1,s.2,rfl,rfl⟩
theorem shaSum_c {r:Fr} {va:Value} {ps:List (List UInt8)} (hp:Arr (Rp.slice Rp.u8) r va ps) (hH:At r ⟨0,0,none⟩ (w64s shaH)) (hK:At r ⟨1,0,none⟩ (w64s shaK)) (hl:ps.flatten.length≤100000000000) :
  Con prog 59 #[va] r [] (Ret fun v η=>∃ a c,v=.slice a 64 c∧η=[OwnP Rp.u8 5 (.slice a 64 c) (shaSum ps.flatten)]):=by
 obtain ⟨a1,c1,rfl⟩:=hp.shape;refine Con.of (n:=10) _ rfl func59 rfl rfl rfl fun g hg R hR=>?_;have hp:=hp.mono hg;have hH:=hH.mono hg;have hK:=hK.mono hg;refine S.seq<|S.region rfl<|O.q 1 rfl<|O.nil<|S.seq<|S.region rfl<|O.call0 (.p rfl) rfl zD rfl rfl ((new_c hH)) ?_;rintro _ _ ⟨b4,rfl,rfl⟩
 try simp only [zx1,zx2,zx3]
 refine O.q 1 rfl<|O.nil<|S.seq<|S.addNil (T:=Rp.u8) (e:=5) ?_;refine S.region rfl<|O.q 2 rfl<|O.callSs (.p rfl) rfl zD rfl rfl zI (write_c (M:=[]) (a:=none) (c:=0) hp hK (by simp only [List.length_nil];omega)) ?_;rintro _ _ ⟨a7,c7,rfl,rfl⟩
 try simp only [zx1,zx2,zx3]
 refine O.nil<|S.seq<|S.frzO zC fun g hs hm hob=>?_;replace hg:=Fr.sub_trans hg hs;replace hR:=melted hR hm
 try replace hp:=hp.mono hs
 try replace hH:=hH.mono hs
 try replace hK:=hK.mono hs
 clear hs hm;refine S.frzA zC fun g hs hm hlf=>?_;replace hg:=Fr.sub_trans hg hs;replace hR:=melted hR hm
 try replace hp:=hp.mono hs
 try replace hH:=hH.mono hs
 try replace hK:=hK.mono hs
 try replace hob:=hob.mono hs
 clear hs hm;refine S.region rfl<|O.q 1 rfl<|O.call0 (.p rfl) rfl zD rfl rfl ((sumH_c hob hlf hK hl)) ?_;rintro _ _ ⟨a9,c9,rfl,rfl⟩
 try simp only [zx1,zx2,zx3]
 refine O.q 1 rfl<|O.nil ?_;exact S.rt results59 rfl hR ⟨a9,c9,rfl,rfl⟩
theorem triedSP_ret {g:Gr} {be bx:Nat} {x:Value} {z:Int} {T1 T2:TypeId} {w:World} {R:Ending→World→Prop} {η:List SProp} (hw:Holds w g (obj bx T1 [x]::obj be T2 [.int .i64 z]::η)) (hR:∀ w,Holds w g (obj bx T1 [x]::obj be T2 [.int .i64 z]::η)→R (.returned (.tuple #[x,.int .i64 z])) w) :
  CallsD prog 302 #[.pointer (some ⟨be,0,none⟩),.pointer (some ⟨bx,0,none⟩)] .returning w (DPost2 prog g bx be 213 44 R):=by
 refine (callsD_rec (R:=fun e w=>(∃ v,e=.returned v)∧Holds w g (obj bx T1 [x]::obj be T2 [.int .i64 z]::η)) [.pointer (some ⟨be,0,none⟩),.pointer (some ⟨bx,0,none⟩)] rfl func302 rfl rfl rfl rfl hw ?_).mono ?_
 rotate_left
 ·rintro e u' w' ⟨rfl,⟨v,rfl⟩,h⟩
  exact ⟨⟨v,rfl⟩,rfl,T1,T2,_,_,_,_,η,h,LoadsAs.flat flat213,LoadsAs.flat flat44,hR w' h⟩
 refine S.seq<|S.region rfl<|O.q 1 rfl<|O.op (.p rfl) (.neqIN underlying20 rfl)<|O.nil<|S.condF rfl<|S.skip<|S.end0 results302 fun w hw=>?_;exact ⟨⟨_,rfl⟩,hw⟩
theorem triedSP_pan {g:Gr} {be bx:Nat} {x:Value} {z z' :Int} {T1 T2:TypeId} {w:World} {R:Ending→World→Prop} {η:List SProp} (hw:Holds w g (obj bx T1 [x]::obj be T2 [.int .i64 z']::η))
  (hR:∀ w,Holds w g (obj bx T1 [.pointer none]::obj be T2 [.int .i64 z]::η)→R (.returned (.tuple #[.pointer none,.int .i64 z])) w) :
  CallsD prog 302 #[.pointer (some ⟨be,0,none⟩),.pointer (some ⟨bx,0,none⟩)] (.panicking (errP 44 z)) w (DPost2 prog g bx be 213 44 R):=by
 refine (callsD_rec (R:=fun e w=>(∃ v,e=.returned v)∧Holds w g (obj bx T1 [.pointer none]::obj be T2 [.int .i64 z]::η)) [.pointer (some ⟨be,0,none⟩),.pointer (some ⟨bx,0,none⟩)] rfl func302 rfl rfl rfl rfl hw ?_).mono ?_
 rotate_left
 ·rintro e u' w' ⟨rfl,⟨v,rfl⟩,h⟩
  exact ⟨⟨v,rfl⟩,rfl,T1,T2,_,_,_,_,η,h,LoadsAs.flat flat213,LoadsAs.flat flat44,hR w' h⟩
 refine zz 3 ?_;refine O.op (.p rfl) (.neqIV underlying20 rfl)<|zz 10 ?_;refine O.op (.p rfl) (.assertYes underlying44 rfl)<|zz 20 ?_;refine O.nil<|S.end0 results302 fun w hw=>?_;exact ⟨⟨_,rfl⟩,hw.picks zN⟩
theorem triedSP_c {r:Fr} {f:Nat} {first cap:Array Value} {K:Value→List SProp→Prop} {X:Int→Prop} (hc:callable prog f=true) (hf1:(Value.func (.func f) first cap).oneCell' =true) (hK1:∀ u ζ,K u ζ→u.oneCell' =true)
  (con:Con prog f (first++#[]++cap) r [] (RetP K (fun ch η=>∃ z,ch=errP 44 z∧X z∧η=[]))) :
  Con prog 233 #[.func (.func f) first cap] r [] (Ret fun v η=>(∃ u,K u η∧v=.tuple #[u,.int .i64 0])∨(∃ z,X z∧η=[]∧v=.tuple #[.pointer none,.int .i64 z])):=by
 refine Con.of (n:=7) [.func (.func f) first cap] rfl func233 rfl rfl rfl fun g hg R hR=>?_;refine S.seq<|S.region rfl<|O.opE (.p rfl) (.alloc (cs:=[.pointer none]) zeroValue213 rfl) ?_;rintro _ _ ⟨b2,rfl,rfl⟩;refine O.opE (.p rfl) (.alloc (cs:=[.int .i64 0]) zeroValue44 rfl) ?_;rintro _ _ ⟨b3,rfl,rfl⟩;refine zz 4 ?_;refine O.defer rfl rfl rfl rfl<|zz 4 ?_;refine O.callP0D (.p rfl) rfl hc rfl rfl (con.sub hg) (fun a ch η' w hF hX hW=>by (obtain ⟨z,rfl,hx,rfl⟩:=hX;exact leavesCell2 results233 hF rfl rfl zH zD (triedSP_pan (hW.picks zN) fun w hw=>Holds.end_ hR hw ⟨_,.inr ⟨z,hx,rfl,rfl⟩,zN⟩))) ?_;rintro v6 _ hk6;have hone:=hK1 _ _ hk6;refine O.perm (List.perm_append_comm) ?_;simp only [List.cons_append,List.nil_append];refine zz 2 ?_;refine O.nil<|S.retL fun a w hf hd hw=>?_;exact leavesCell2 results233 hf rfl rfl zH zD (triedSP_ret (hw.picks zN) fun w hw=>Holds.end_ hR hw ⟨_,.inl ⟨_,hk6,rfl⟩,zN⟩)
theorem sright1_c {r:Fr} {p:Nat} {va:Value} {xs:List RecT} (hp:At r ⟨p,0,none⟩ [va]) (ha:Arr RecRp r va xs) (hl:xs.length≤100000000000) :
  Con prog 234 (#[]++#[]++#[.pointer (some ⟨p,0,none⟩)]) r [] (RetP (fun v η=>SRight xs∧∃ b,v=.pointer (some ⟨b,0,none⟩)∧η=[RowP r 218 220 5 b xs]) (fun ch η=>∃ z,ch=errP 44 z∧(¬ SRight xs∧z=4)∧η=[])):=by
 refine Con.of (n:=4) [.pointer (some ⟨p,0,none⟩)] rfl func234 rfl rfl rfl fun g hg R hR=>?_;have hp:=hp.mono hg;obtain ⟨a1,c1,rfl⟩:=ha.shape;refine zz 7 ?_;refine O.callP0 (.p rfl) rfl zD rfl rfl (((rowOf_c ha hl).sub hg)) (fun ch η' w hX hW=>by (obtain ⟨hb,rfl,rfl⟩:=hX;exact hR _ _ w ⟨4,rfl,⟨hb,rfl⟩,rfl⟩ hW.drop_all)) ?_;rintro _ _ ⟨hright,b3,rfl,rfl⟩;refine zz 2 ?_;exact S.rt results234 rfl hR ⟨hright,b3,rfl,rfl⟩
theorem sRight_c {r:Fr} {va:Value} {xs:List RecT} (ha:Arr RecRp r va xs) (hl:xs.length≤100000000000) :
  Con prog 155 #[va] r [] (Ret fun v η=>v=.bool (decide (SRight xs))∧η=[]):=by
 refine Con.o func155 fun g hg R hR=>?_;have ha:=ha.mono hg;obtain ⟨a1,c1,rfl⟩:=ha.shape;refine S.seq<|S.region rfl<|O.opE (.p rfl) (.box (cs:=[_]) rfl rfl) ?_;rintro _ _ ⟨b1,rfl,rfl⟩;refine zz 3 ?_;refine S.frzO zC fun g hs hm hb1=>?_;replace hg:=zfs hg hs;replace hR:=melted hR hm
 try replace ha:=ha.mono hs
 clear hs hm;have con:=triedSP_c zD (first:=#[]) (cap:=#[.pointer (some ⟨b1,0,none⟩)]) rfl (fun _ _ h=>by obtain ⟨_,_,rfl,_⟩:=h;rfl) (sright1_c hb1 ha hl)
 by_cases e:SRight xs
 ·
  refine zz 2 ?_;refine O.call0 (.p rfl) rfl zD rfl rfl ((con.mono (Ret.imp (K' :=fun v η=>∃ b,v=.tuple #[.pointer (some ⟨b,0,none⟩),.int .i64 0]∧η=[RowP g.h 218 220 5 b xs]) fun v η h=>by rcases h with ⟨_,⟨_,b,rfl,h3⟩,rfl⟩|⟨_,⟨h2,_⟩,_⟩;exact ⟨b,rfl,h3⟩;exact absurd e h2))) ?_;rintro _ _ ⟨b7,rfl,rfl⟩;refine zz 12 ?_;exact S.rt results155 rfl hR ⟨by simp [e],rfl⟩
 ·
  refine zz 2 ?_;refine O.v0 (.p rfl) rfl zD rfl rfl ((con.mono (Ret.imp (K' :=fun v η=>v=.tuple #[.pointer none,.int .i64 4]∧η=[]) fun v η h=>by rcases h with ⟨_,⟨h2,_⟩,_⟩|⟨_,⟨_,rfl⟩,rfl,rfl⟩;exact absurd h2 e;exact ⟨rfl,rfl⟩))) ?_;refine zz 12 ?_;exact S.rt results155 rfl hR ⟨by simp [e],rfl⟩
theorem mlong_c {r:Fr} {s:List UInt8} (hl:s.length≤9223372036854775807):Con prog 88 #[.string (str s)] r [] (Ret fun v η=>v=.bool (decide (keyOk s))∧η=[]):=by
 refine Con.o func88 fun g hg R hR=>?_
 by_cases h1:1≤s.length
 ·by_cases h2:s.length≤64
  ·have e:decide (keyOk s)=true:=zdt ⟨h1,h2⟩
   refine zz 9 ?_;refine O.sT 5 rfl (by exact zdt zK)<|zz 4 ?_;refine O.sT 9 rfl (by exact zdt zK)<|zz 3 ?_;exact S.rt results88 rfl hR ⟨congrArg Value.bool e.symm,rfl⟩
  ·have e:decide (keyOk s)=false:=zdf fun h=>h2 h.2
   refine zz 9 ?_;refine O.sT 5 rfl (by exact zdt zK)<|zz 4 ?_;refine O.sF 9 rfl (by exact zdf zK)<|zz 3 ?_;exact S.rt results88 rfl hR ⟨congrArg Value.bool e.symm,rfl⟩
 ·have e:decide (keyOk s)=false:=zdf fun h=>h1 h.1
  refine zz 9 ?_;refine O.sF 5 rfl (by exact zdf zK)<|zz 7 ?_;exact S.rt results88 rfl hR ⟨congrArg Value.bool e.symm,rfl⟩
theorem mof_c {r:Fr} {s:List UInt8} {va:Value} {xs:List RecT} (ha:Arr RecRp r va xs) (hl:xs.length≤1000000000):Con prog 89 #[.string (str s),va] r [] (Ret fun v η=>v=.bool (decide (ofK s xs))∧η=[]):=by
 obtain ⟨a1,c1,rfl⟩:=ha.shape;refine Con.o func89 fun g hg R hR=>?_;have ha:=ha.mono hg
 by_cases h1:SRight xs
 ·by_cases h2:0<xs.length
  ·by_cases h3:xs[0].1=s
   ·have e:decide (ofK s xs)=true:=zdt ⟨h1,fun _=>h3⟩
    refine zz 7 ?_;refine O.v0 (.p rfl) rfl zD rfl rfl ((sRight_c ha zB)) ?_;refine O.sT 6 rfl (by exact zdt h1)<|zz 4 ?_;refine O.sF 10 rfl (by exact zdf zB) ?_;refine O.q 2 rfl<|O.ia (.g rfl rfl) underlying22 size102 rfl rfl (show _=(((0):Nat):Int) by omega) zA (h:=fun p13 cs13 hp13 hr13=>?_);obtain ⟨ra3_13,ra5_13,ra6_13,rc3_13,rc5_13,rc6_13,rfl,ho0_13,ho1_13,ho2_13,ha3_13,ha5_13,ha6_13⟩:=RecRp.sh hr13;refine zz 2 ?_;refine O.q 1 rfl<|O.op (.g rfl rfl) (.eqlS rfl rfl)<|O.sT 17 rfl (by rw [h3];simp)<|zz 4 ?_;exact S.rt results89 rfl hR ⟨congrArg Value.bool e.symm,rfl⟩
   ·have e:decide (ofK s xs)=false:=zdf fun h=>h3 (h.2 h2)
    refine zz 7 ?_;refine O.v0 (.p rfl) rfl zD rfl rfl ((sRight_c ha zB)) ?_;refine O.sT 6 rfl (by exact zdt h1)<|zz 4 ?_;refine O.sF 10 rfl (by exact zdf zB) ?_;refine O.q 2 rfl<|O.ia (.g rfl rfl) underlying22 size102 rfl rfl (show _=(((0):Nat):Int) by omega) zA (h:=fun p13 cs13 hp13 hr13=>?_);obtain ⟨ra3_13,ra5_13,ra6_13,rc3_13,rc5_13,rc6_13,rfl,ho0_13,ho1_13,ho2_13,ha3_13,ha5_13,ha6_13⟩:=RecRp.sh hr13;refine zz 2 ?_;refine O.q 1 rfl<|O.op (.g rfl rfl) (.eqlS rfl rfl)<|O.sF 17 rfl (by exact zdf (fun q=>h3 (str_eqL q))) ?_;refine zz 4 ?_;exact S.rt results89 rfl hR ⟨congrArg Value.bool e.symm,rfl⟩
  ·have e:decide (ofK s xs)=true:=zdt ⟨h1,fun h=>absurd h h2⟩
   refine zz 7 ?_;refine O.v0 (.p rfl) rfl zD rfl rfl ((sRight_c ha zB)) ?_;refine O.sT 6 rfl (by exact zdt h1)<|zz 4 ?_;refine O.sT 10 rfl (by exact zdt zB)<|zz 11 ?_;exact S.rt results89 rfl hR ⟨congrArg Value.bool e.symm,rfl⟩
 ·have e:decide (ofK s xs)=false:=zdf fun h=>h1 h.1
  refine zz 7 ?_;refine O.v0 (.p rfl) rfl zD rfl rfl ((sRight_c ha zB)) ?_;refine O.sF 6 rfl (by exact zdf h1)<|zz 15 ?_;exact S.rt results89 rfl hR ⟨congrArg Value.bool e.symm,rfl⟩
theorem setDY {l:List RecT} (h:SRight l):setD l=shaSum (5::sB l)∧sOut l=sB l∧sErr l=0:=⟨by unfold setD;rw [if_pos h],by unfold sOut;rw [if_pos h],by unfold sErr;rw [if_pos h]⟩
theorem setDN {l:List RecT} (h:¬ SRight l):setD l=[]∧sOut l=[]∧sErr l=4:=⟨by unfold setD;rw [if_neg h],by unfold sOut;rw [if_neg h],by unfold sErr;rw [if_neg h]⟩
theorem setSum_c {r:Fr} {va:Value} {xs:List RecT} (ha:Arr RecRp r va xs) (hH:At r ⟨0,0,none⟩ (w64s shaH)) (hK:At r ⟨1,0,none⟩ (w64s shaK)) (hl:xs.length≤10000000) :
  Con prog 20 #[va] r [] (Ret fun v η=>∃ a c,v=.slice a (setD xs).length c∧η=[OwnP Rp.u8 5 (.slice a (setD xs).length c) (setD xs)]):=by
 obtain ⟨a1,c1,rfl⟩:=ha.shape;refine Con.o func20 fun g hg R hR=>?_;have ha:=ha.mono hg;have hH:=hH.mono hg;have hK:=hK.mono hg
 by_cases h1:SRight xs
 ·obtain ⟨e1,e2,e3⟩:=setDY h1
  have hsl:=sB_le h1.1;refine zz 7 ?_;refine O.call0 (.p rfl) rfl zD rfl rfl ((sPut_c ha zB)) ?_;rintro _ _ ⟨a7,c7,rfl,rfl⟩;rw [e2,e3];refine zz 8 ?_;refine S.frzA zC fun g hs hm hb=>?_;replace hg:=zfs hg hs;replace hR:=melted hR hm
  try replace ha:=ha.mono hs
  try replace hH:=hH.mono hs
  try replace hK:=hK.mono hs
  clear hs hm;refine zz 3 ?_;refine O.sF 11 rfl zF ?_;refine zz 5 ?_;refine O.opE (.p rfl) (.litP (T:=Rp.u8) (ys:=[5]) underlying24 elem5 zE rfl rfl ⟨rfl,trivial⟩ zE) ?_;rintro _ _ ⟨a12,c12,rfl,rfl⟩;refine O.frzA zC fun g hs hm ha12=>?_;replace hg:=zfs hg hs;replace hR:=melted hR hm
  try replace ha:=ha.mono hs
  try replace hH:=hH.mono hs
  try replace hK:=hK.mono hs
  try replace hb:=hb.mono hs
  clear hs hm;refine O.q 1 rfl<|O.opE (.p rfl) (.litP (T:=Rp.cells 1) (ys:=[[.slice a12 1 c12],[.slice a7 (sB xs).length c7]]) underlying109 elem24 zE rfl rfl ⟨⟨rfl,rfl,by first|(simp;done)|(intro v hv;simp [Value.cells] at hv;rcases hv with rfl|rfl<;>rfl)|(refine List.forall_mem_cons.2 ⟨rfl,?_⟩;repeat (first|exact (fun _ h=>absurd h List.not_mem_nil)|refine List.forall_mem_cons.2 ⟨rfl,?_⟩))⟩,⟨rfl,rfl,by first|(simp;done)|(intro v hv;simp [Value.cells] at hv;rcases hv with rfl|rfl<;>rfl)|(refine List.forall_mem_cons.2 ⟨rfl,?_⟩;repeat (first|exact (fun _ h=>absurd h List.not_mem_nil)|refine List.forall_mem_cons.2 ⟨rfl,?_⟩))⟩,trivial⟩ zE) ?_;rintro _ _ ⟨a14,c14,rfl,rfl⟩;refine O.frzA zC fun g hs hm ha14=>?_;replace hg:=zfs hg hs;replace hR:=melted hR hm
  try replace ha:=ha.mono hs
  try replace hH:=hH.mono hs
  try replace hK:=hK.mono hs
  try replace hb:=hb.mono hs
  try replace ha12:=ha12.mono hs
  clear hs hm;refine O.call0 (.p rfl) rfl zD rfl rfl ((shaSum_c (ps:=[[5],sB xs]) (Arr.ofCells ha14 ⟨⟨_,rfl,ha12⟩,⟨_,rfl,hb⟩,trivial⟩ rfl) hH hK zK)) ?_;rintro _ _ ⟨a15,c15,rfl,rfl⟩;refine zz 2 ?_;have e4:shaSum [[5],sB xs].flatten=setD xs:=by rw [e1];simp
  have e5:=setD_yes h1;refine S.ownIs (T:=Rp.u8) (e:=5) (v' :=.slice a15 (setD xs).length c15) (xs' :=setD xs) zC (by rw [e5]) e4 ?_;exact S.rt results20 rfl hR ⟨a15,c15,by rw [e5],rfl⟩
 ·obtain ⟨e1,e2,e3⟩:=setDN h1
  refine zz 7 ?_;refine O.call0 (.p rfl) rfl zD rfl rfl ((sPut_c ha zB)) ?_;rintro _ _ ⟨a7,c7,rfl,rfl⟩;rw [e2,e3];refine zz 11 ?_;refine O.sT 11 rfl zF<|zz 6 ?_;refine S.addNil (T:=Rp.u8) (e:=5) ?_;refine S.ownIs (T:=Rp.u8) (e:=5) (v' :=.slice none (setD xs).length 0) (xs' :=setD xs) zC (by rw [e1];rfl) e1.symm ?_;exact S.rt results20 rfl hR ⟨none,0,by rw [e1];rfl,rfl⟩
end Go.Proofs.YtojafegjlahajaaGreatDoor
