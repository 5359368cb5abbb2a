/- Texts of this proof. -/
import Derived.Test.YtodhbhanmdfdeaaGreatQLent4
import Derived.Test.YtodhbhanmdfdeaaGreatQSpRs3
open Go Go.Sp Go.Proofs.Tryz
set_option maxRecDepth 100000
set_option maxHeartbeats 1000000
attribute [local irreducible] obj Own OwnP
namespace Go.Proofs.YtodhbhanmdfdeaaGreat
def SetK (b:List UInt8) (v:Value) (η:List SProp):Prop:=∃ l a c,sGet b=some l∧v=.slice a l.length c∧η=[ListP (RecG tys) 74 (.slice a l.length c) l]
theorem recG_sat {x:RecT} {v3 v5 v6:Value} {m:Fr} (h:recOk x=true) (hs:Sat (recWs x v3 v5 v6) m):(RecG tys).own (recV x v3 v5 v6) x m:=by
 have h1:=shaped_iff.1 (recOk_iff.1 h).1;have hd:=dotOk_iff.1 h1.2.2.1;simp only [rDot] at hd;exact RecG.mk zD ⟨by omega,by omega⟩ ⟨by omega,by omega⟩ hs
theorem sget1_c {r:Fr} {p:Nat} {va:Value} {b:List UInt8} (hp:At r ⟨p,0,none⟩ [va]) (ha:Arr Rp.u8 r va b) (hl:b.length≤1000000000) :
  Con prog 126 (#[]++#[]++#[.pointer (some ⟨p,0,none⟩)]) r [] (RetP (fun v η=>SetK b v η) (fun ch η=>∃ z,ch=errP 32 z∧(sGet b=none∧z=4)∧η=[])):=by
 refine Con.of (n:=37) [.pointer (some ⟨p,0,none⟩)] rfl func126 rfl rfl rfl fun g hg R hR=>?_;have hp:=hp.mono hg;have ha:=ha.mono hg;have hbd:=ha.bound;obtain ⟨a1,c1,rfl⟩:=ha.shape;refine zz 7 ?_;refine O.call0 (.p rfl) rfl zC rfl rfl (rdNew_c zA zI) ?_;rintro _ _ ⟨b7,rfl,rfl⟩;refine zz 12 ?_;refine O.op (.p rfl) (.quo rfl rfl zD)<|O.slot 11 (v' :=.int .i64 ((b.length / 8:Nat):Int)) rfl (by rw [Int.tdiv_eq_ediv_of_nonneg zD,IntWalk.i64_in _ zD];rfl) ?_;refine O.vS (.p rfl) rfl zC rfl rfl zB (rdCount_c _) ?_;refine zz 3 ?_;obtain ⟨c,hc⟩:∃ c,(RS.mk true b).count ((b.length / 8:Nat):Int)=c:=⟨_,rfl⟩;rw [hc];have lc:c.2.rest.length≤1000000000:=by rw [← hc];exact Nat.le_trans (RS.count_len _ _) hl
 obtain ⟨n0,n8⟩:0≤c.1∧c.1≤((b.length / 8:Nat):Int):=by rw [← hc];exact RS.count_bd _ _ zD
 refine S.listNil (RecG tys) 74 ?_;refine S.loopK3 (ι:=Nat) (κ:=List RecT × RS) (υ:=Option Addr × Nat) (fun i x a=>i≤c.1.toNat∧setP b.length i c.2=some x) (fun i x a=>[(13,.int .i64 (i:Int)),(3,.slice a.1 x.1.length a.2)]) [(0,_),(2,_),(12,_)] (fun i x a=>[ListP (RecG tys) 74 (.slice a.1 x.1.length a.2) x.1,RdP 226 b7 x.2]) (fun i x a=>c.1.toNat - i) (0) (([],c.2)) ((none,0)) (by exact ⟨by omega,rfl⟩) zq zq rfl fun i x a hx ih=>?_;have hm1:=meltRefl (g:=g);obtain ⟨hx1,hx2⟩:=hx;have hxl:=(setP_bad hx2).2;have hxr:=setP_len hx2;refine zz 5 ?_;refine S.cd rfl (fun h14=>?_) fun h14=>?_
 ·have hi:i<c.1.toNat:=by omega
  have hout:=RS.bytes_out (b.length:Int) x.2
  cases e:recGet (x.2.bytes b.length).1 with
  |none =>
   have hno:sGet b=none:=sGet_none hc (k:=i+1) zD (setP_stop hx2 e);refine zz 8 ?_;refine O.callS (.p rfl) rfl zC rfl rfl zB (rdBytes_c _ zI) ?_;rintro _ _ ⟨a19,c19,rfl,rfl⟩;refine O.frzA zB fun g hs hm ha19=>?_;replace hg:=Fr.sub_trans hg hs;replace hR:=melted hR hm
   try replace hp:=hp.mono hs
   try replace ha:=ha.mono hs
   replace hm1:=meltTrans hm1 hm;clear hs hm;refine O.v0 (.p rfl) rfl zC rfl rfl ((rGetN_c e ha19 zD)) ?_;refine O.q 3 rfl<|O.opE (.p rfl) (.alloc (cs:=[.string ⟨#[]⟩,.int .i64 0,.int .i64 0,.slice none 0 0,.bool false,.slice none 0 0,.slice none 0 0]) zeroValue74 rfl) ?_;rintro _ _ ⟨b4,rfl,rfl⟩;refine zz 7 ?_;refine O.sF 24 rfl zE ?_;refine O.callP0 (.p rfl) rfl zC rfl rfl (smust_c _) (fun ch η' w hX hW=>by (obtain ⟨_,rfl,rfl⟩:=hX;exact hR _ _ w ⟨4,rfl,⟨hno,rfl⟩,rfl⟩ hW.drop_all)) ?_;rintro _ _ ⟨hb25,rfl,rfl⟩;exact absurd hb25 zG
  |some z =>
   have hok:=(recGet_iff.1 e).1;refine zz 8 ?_;refine O.callS (.p rfl) rfl zC rfl rfl zB (rdBytes_c _ zI) ?_;rintro _ _ ⟨a19,c19,rfl,rfl⟩;refine O.frzA zB fun g hs hm ha19=>?_;replace hg:=Fr.sub_trans hg hs;replace hR:=melted hR hm
   try replace hp:=hp.mono hs
   try replace ha:=ha.mono hs
   replace hm1:=meltTrans hm1 hm;clear hs hm;refine O.call0 (.p rfl) rfl zC rfl rfl ((rGetY_c e ha19 zD)) ?_;rintro _ _ ⟨a3,c3,a5,c5,a6,c6,rfl,rfl⟩;refine O.q 3 rfl<|O.opE (.p rfl) (.alloc (cs:=[.string ⟨#[]⟩,.int .i64 0,.int .i64 0,.slice none 0 0,.bool false,.slice none 0 0,.slice none 0 0]) zeroValue74 rfl) ?_;rintro _ _ ⟨b4,rfl,rfl⟩;refine zz 7 ?_;refine O.sT 24 rfl zE ?_;refine O.callP0 (.p rfl) rfl zC rfl rfl (smust_c _) (fun ch η' w hX hW=>by (exact absurd hX.1 zG)) ?_;rintro _ _ ⟨hb25,rfl,rfl⟩;refine O.nil<|S.listOpen (k' :=7) rfl zB fun css hcl=>?_;rw [← hcl];refine zz 3 ?_;refine O.opE (.p rfl) (.litP (T:=(Rp.cells 7)) (ys:=[_]) underlying47 elem74 zE rfl rfl ⟨⟨rfl,rfl,by first|(simp;done)|(intro v hv;simp [Value.cells] at hv;rcases hv with rfl|rfl<;>rfl)|(refine List.forall_mem_cons.2 ⟨rfl,?_⟩;repeat (first|exact (fun _ h=>absurd h List.not_mem_nil)|refine List.forall_mem_cons.2 ⟨rfl,?_⟩))⟩,trivial⟩ zE) ?_;rintro _ _ ⟨a28,c28,rfl,rfl⟩;refine O.opE (.p rfl) (.appendO (T:=(Rp.cells 7)) underlying47 elem74 zE rfl rfl zB zB zI zI) ?_;rintro _ _ ⟨a29,c29,rfl,rfl⟩;refine zz 7 ?_
   refine S.foldS (A:=(RecG tys).own (recV z (.slice a3 z.2.2.2.1.length c3) (.slice a5 z.2.2.2.2.2.1.length c5) (.slice a6 z.2.2.2.2.2.2.1.length c6)) z) (bs:=recWs z (.slice a3 z.2.2.2.1.length c3) (.slice a5 z.2.2.2.2.2.1.length c5) (.slice a6 z.2.2.2.2.2.2.1.length c6)) zK (fun m h=>recG_sat hok h) ?_;refine S.listPut (G:=RecG tys) (k' :=7) rfl zB zB zB ?_;simp only [List.length_singleton];rw [show css.length+1=(x.1++[z]).length from by simp [hcl]];exact S.melt hm1 (S.pw (ih (i+1) ((x.1++[z],(x.2.bytes b.length).2)) ((a29,c29)) (by exact ⟨by omega,setP_next hx2 e⟩) zD))
 ·clear ih
  have hi:i=c.1.toNat:=by omega
  subst hi;have hgt:=sGet_eq hc hx2;obtain ⟨l,s⟩:=x
  cases e1:s.done with
  |false =>
   have hno:sGet b=none:=by rw [hgt,if_neg (fun q=>by rw [e1] at q;exact absurd q.1 zE)]
   refine zz 4 ?_;refine O.vS (.p rfl) rfl zC rfl rfl zB rdDone_c ?_;refine O.sF 32 rfl (by exact e1) ?_;refine O.callP0 (.p rfl) rfl zC rfl rfl (smust_c _) (fun ch η' w hX hW=>by (obtain ⟨_,rfl,rfl⟩:=hX;exact hR _ _ w ⟨4,rfl,⟨hno,rfl⟩,rfl⟩ hW.drop_all)) ?_;rintro _ _ ⟨hb33,rfl,rfl⟩;exact absurd hb33 zG
  |true =>
   refine zz 4 ?_;refine O.vS (.p rfl) rfl zC rfl rfl zB rdDone_c ?_;refine O.sT 32 rfl (by exact e1) ?_;refine O.callP0 (.p rfl) rfl zC rfl rfl (smust_c _) (fun ch η' w hX hW=>by (exact absurd hX.1 zG)) ?_;rintro _ _ ⟨hb33,rfl,rfl⟩;refine zz 2 ?_;have hg_q:=hg;have hR_q:=hR
   try have hp_q:=hp
   try have ha_q:=ha
   refine S.frzH (B:=ListP (RecG tys) 74 (.slice a.1 l.length a.2) l) zB fun gq hsq ⟨mq,hmq,hsmq⟩ hbq=>?_;replace hg:=Fr.sub_trans hg hsq;replace hR:=backR hR hbq
   try replace hp:=hp.mono hsq
   try replace ha:=ha.mono hsq
   have hlr:Arr RecRp gq.h (.slice a.1 l.length a.2) l:=(ListP.arr hmq).mono hsmq;refine zz 2 ?_;refine O.callP0 (.p rfl) rfl zC rfl rfl ((rowOf_c hlr (by simp only at hxl;omega))) (fun ch η' w hX hW=>by (obtain ⟨hb,rfl,rfl⟩:=hX;exact hR _ _ w ⟨4,rfl,⟨by rw [hgt,if_neg (fun q=>hb q.2)],rfl⟩,rfl⟩ hW.drop_all)) ?_;rintro _ _ ⟨hright,b35,rfl,rfl⟩;refine O.nil<|S.seq<|S.back hbq ?_;replace hg:=hg_q;replace hR:=hR_q
   try replace hp:=hp_q
   try replace ha:=ha_q
   clear hg_q hR_q;have hyes:sGet b=some l:=by rw [hgt,if_pos ⟨e1,hright⟩]
   refine zz 4 ?_;exact S.rt results126 rfl hR ⟨l,a.1,a.2,hyes,rfl,rfl⟩
def set_t (b:List UInt8) (v:Value) (η:List SProp):Prop:=(∃ u,SetK b u η∧v=.tuple #[u,.int .i64 0])∨(sGet b=none∧v=.tuple #[.slice none 0 0,.int .i64 4]∧η=[])
theorem sTriedG_c {r:Fr} {first cap:Array Value} {b:List UInt8} (con:Con prog 126 (first++#[]++cap) r [] (RetP (fun v η=>SetK b v η) (fun ch η=>∃ z,ch=errP 32 z∧(sGet b=none∧z=4)∧η=[]))) (h1:(Value.func (.func 126) first cap).oneCell' =true:=by rfl) :
  Con prog 102 #[.func (.func 126) first cap] r [] (Ret fun v η=>set_t b v η) :=
 (triedSS_c zC h1 (fun _ _ h=>by obtain ⟨l,a,c,_,rfl,_⟩:=h;rfl) con).mono (Ret.imp fun v η h=>by
  rcases h with ⟨u,h2,h3⟩|⟨z,⟨h2,rfl⟩,h3,h4⟩
  ·exact .inl ⟨u,h2,h3⟩
  ·exact .inr ⟨h2,h4,h3⟩)
theorem set_tY {b:List UInt8} {l:List RecT} {v:Value} {η:List SProp} (e:sGet b=some l) (h:set_t b v η):∃ a c,v=.tuple #[.slice a l.length c,.int .i64 0]∧η=[ListP (RecG tys) 74 (.slice a l.length c) l]:=by
 rcases h with ⟨_,⟨y,a,c,h1,rfl,rfl⟩,rfl⟩|⟨h1,_⟩
 ·rw [e] at h1;obtain rfl:=Option.some.inj h1;exact ⟨a,c,rfl,rfl⟩
 ·rw [e] at h1;cases h1
theorem set_tN {b:List UInt8} {v:Value} {η:List SProp} (e:sGet b=none) (h:set_t b v η):v=.tuple #[.slice none 0 0,.int .i64 4]∧η=[]:=by
 rcases h with ⟨_,⟨y,a,c,h1,_⟩,_⟩|⟨_,h1,h2⟩
 ·rw [e] at h1;cases h1
 ·exact ⟨h1,h2⟩
theorem sGet_c {r:Fr} {va:Value} {b:List UInt8} (ha:Arr Rp.u8 r va b) (hl:b.length≤1000000000):Con prog 50 #[va] r [] (Ret fun v η=>set_t b v η):=by
 refine Con.o func50 fun g hg R hR=>?_;have ha:=ha.mono hg;obtain ⟨a1,c1,rfl⟩:=ha.shape
 cases e:sGet b with
 |some x =>
  refine S.seq<|S.region rfl<|O.opE (.p rfl) (.box (cs:=[_]) rfl rfl) ?_;rintro _ _ ⟨b1,rfl,rfl⟩;refine O.frzO zB fun g hs hm hb1=>?_;replace hg:=Fr.sub_trans hg hs;replace hR:=melted hR hm
  try replace ha:=ha.mono hs
  clear hs hm;refine zz 6 ?_;refine O.call0 (.p rfl) rfl zC rfl rfl (((sTriedG_c (sget1_c hb1 ha hl)).mono (Ret.imp fun _ _ h=>set_tY e h))) ?_;rintro _ _ ⟨a5,c5,rfl,rfl⟩;refine O.q 4 rfl<|O.nil<|S.ret2 results50 rfl rfl fun w hw=>Holds.end_ hR hw ?_;exact pk (.inl ⟨_,⟨x,a5,c5,e,rfl,rfl⟩,rfl⟩)
 |none =>
  refine S.seq<|S.region rfl<|O.opE (.p rfl) (.box (cs:=[_]) rfl rfl) ?_;rintro _ _ ⟨b1,rfl,rfl⟩;refine O.frzO zB fun g hs hm hb1=>?_;replace hg:=Fr.sub_trans hg hs;replace hR:=melted hR hm
  try replace ha:=ha.mono hs
  clear hs hm;refine zz 6 ?_;refine O.v0 (.p rfl) rfl zC rfl rfl (((sTriedG_c (sget1_c hb1 ha hl)).mono (Ret.imp fun _ _ h=>set_tN e h))) ?_;refine O.q 4 rfl<|O.nil<|S.ret2 results50 rfl rfl fun w hw=>Holds.end_ hR hw ?_;exact pk (.inr ⟨e,rfl,rfl⟩)
theorem be_take (n:Int) (j:Nat) (h:j<8):(be n).take j++[beAt n (7 - j)]=(be n).take (j+1):=by
 match j,h with
 |0,_|1,_|2,_|3,_|4,_|5,_|6,_|7,_=>rfl
theorem be_take_len (n:Int) (j:Nat) (h:j≤8):((be n).take j).length=j:=by rw [List.length_take,be_length];omega
theorem refNumber_c {r:Fr} (n:Int):Con prog 63 #[.int .i64 n] r [] (Ret fun v η=>∃ a c,v=.slice a 8 c∧η=[OwnP Rp.u8 5 v (be n)]):=by
 refine Con.of (n:=20) _ rfl func63 rfl rfl rfl fun g hg R hR=>?_;refine S.addNil (T:=Rp.u8) (e:=5) ?_;refine S.seq<|S.region rfl<|O.q 1 rfl<|O.nil<|S.seq<|S.region rfl<|O.q 1 rfl<|O.nil<|S.seq<|S.seq<|S.region rfl<|O.q 1 rfl<|O.nil<|S.block<|S.loopK3 (ι:=Nat) (κ:=Option Addr) (υ:=Nat) (fun j a c=>j≤8) (fun j a c=>[(4,.int .i64 ((7:Int) - (j:Int))),(3,.slice a j c)]) [(0,_)] (fun j a c=>[OwnP Rp.u8 5 (.slice a j c) ((be n).take j)]) (fun j a c=>8 - j) (0) (none) (0) zG (.cons rfl (.cons rfl (.nil))) (.cons rfl (.nil)) rfl fun j a c hx ih=>?_;have hm1:=meltRefl (g:=g);refine S.seq<|S.seq<|S.region rfl<|O.q 1 rfl<|O.op (.p rfl) (.geq rfl rfl)<|O.nil ?_
 first|refine S.condD rfl (fun h6=>?_) (fun h6=>?_)|refine S.condB rfl (fun h6=>?_) (fun h6=>?_)
 ·have hj:j<8:=by omega
  have hl:=be_take_len n j zD;have hw:IntKind.u64.wrap (8*(7 - (j:Int)))=8*(7 - (j:Int)):=by rw [wrap_u64_eq];unfold u64;omega
  refine S.skip<|S.seq<|S.block<|S.region rfl<|O.q 2 rfl<|O.op (.p rfl) (.cvt underlying3 underlying195 rfl)<|O.q 1 rfl<|O.op (.p rfl) (.mul rfl rfl (IntWalk.i64_in _ zD))<|O.op (.p rfl) (.cvt underlying3 underlying57 rfl)<|O.op (.p rfl) (.shr rfl rfl zD)<|O.op (.p rfl) (.cvt underlying195 underlying5 rfl)<|O.opE (.p rfl) (.litP (T:=Rp.u8) (ys:=[beAt n (7 - j)]) underlying31 elem5 zE rfl rfl ⟨congrArg (fun v=>[v]) (by simp only [byteV];rw [shift_byte n (7 - j) zD _ (by rw [wrap_u64_eq];unfold u64;omega)]),trivial⟩ zE) ?_;rintro _ _ ⟨a17,c17,rfl,rfl⟩;refine O.frzA zB fun g hs hm ha17=>?_;replace hg:=Fr.sub_trans hg hs;replace hR:=melted hR hm;replace hm1:=meltTrans hm1 hm;clear hs hm;refine O.opE (.p rfl) (.appendP (T:=Rp.u8) pure_u8 underlying31 elem5 zE rfl rfl zB (by first|assumption|exact Arr.mono hg zF|exact Arr.left zF|exact Arr.left (Arr.mono hg zF)) zI zI) ?_;rintro _ _ ⟨a18,c18,rfl,rfl⟩;refine O.q 1 rfl<|O.nil<|S.inBlock<|S.region rfl<|O.q 1 rfl<|O.op (.p rfl) (.sub rfl rfl (IntWalk.i64_in _ zD))<|O.q 1 rfl<|O.nil ?_;rw [be_take n j hj,hl];refine S.slot 4 (v' :=.int .i64 ((7:Int) - ((j+1:Nat):Int))) rfl (congrArg _ zD) ?_;exact S.melt hm1 (S.wk (ih (j+1) (a18) (c18) zD zD))
 ·have hj:j=8:=by omega
  subst hj;refine S.exit rfl<|S.seq<|S.region rfl<|O.q 2 rfl<|O.nil<|S.ret results63 rfl fun w hw=>hR _ _ w ?_ hw;exact ⟨a,c,rfl,rfl⟩
theorem refBytes_c {r:Fr} {va:Value} {xs:List UInt8} (ha:Arr Rp.u8 r va xs) (hl:xs.length≤100000000000000) :
  Con prog 65 #[va] r [] (Ret fun v η=>∃ a c,v=.slice a (bytesOf xs).length c∧η=[OwnP Rp.u8 5 v (bytesOf xs)]):=by
 refine Con.of (n:=8) _ rfl func65 rfl rfl rfl fun g hg R hR=>?_;have ha:=ha.mono hg;obtain ⟨a1,c1,rfl⟩:=ha.shape;refine S.seq<|S.region rfl<|O.q 1 rfl<|O.nil<|S.seq<|S.region rfl<|O.q 1 rfl<|O.op (.p rfl) (.len rfl underlying31 rfl)<|O.call0 (.p rfl) rfl zC rfl rfl (refNumber_c _) ?_;rintro _ _ ⟨a5,c5,rfl,rfl⟩
 try simp only [zx1,zx2,zx3]
 refine O.q 1 rfl<|O.opE (.p rfl) (.appendP (T:=Rp.u8) pure_u8 underlying31 elem5 zE rfl rfl zB (by first|assumption|exact Arr.mono hg zF|exact Arr.left zF|exact Arr.left (Arr.mono hg zF)) zI zI) ?_;rintro _ _ ⟨a7,c7,rfl,rfl⟩;refine O.q 1 rfl<|O.nil<|S.ret results65 rfl fun w hw=>hR _ _ w ?_ hw;exact ⟨a7,c7,by simp [bytesOf],by simp [bytesOf]⟩
theorem refJoin_c {r:Fr} {va:Value} {xss:List (List UInt8)} (ha:Arr (Rp.slice Rp.u8) r va xss) (hl:xss.flatten.length≤140737488355328) :
  Con prog 64 #[va] r [] (Ret fun v η=>∃ a c,v=.slice a xss.flatten.length c∧η=[OwnP Rp.u8 5 v xss.flatten]):=by
 refine Con.of (n:=18) _ rfl func64 rfl rfl rfl fun g hg R hR=>?_;have ha:=ha.mono hg;have hbd:=ha.bound;obtain ⟨a1,c1,rfl⟩:=ha.shape;refine S.addNil (T:=Rp.u8) (e:=5) ?_;refine S.seq<|S.region rfl<|O.q 1 rfl<|O.nil<|S.seq<|S.region rfl<|O.q 1 rfl<|O.nil<|S.seq<|S.seq<|S.region rfl<|O.q 1 rfl<|O.nil<|S.block<|S.loopK4 (ι:=Nat) (κ:=Option Addr) (υ:=Nat) (τ:=Nat) (fun i a6 m6 c6=>i≤xss.length∧m6=(xss.take i).flatten.length) (fun i a6 m6 c6=>[(4,.int .i64 (i:Int)),(3,.slice a6 m6 c6)]) [(0,_)] (fun i a6 m6 c6=>[OwnP Rp.u8 5 (.slice a6 m6 c6) (xss.take i).flatten]) (fun i a6 m6 c6=>xss.length - i) (0) (none) (0) (0) zG (.cons rfl (.cons rfl (.nil))) (.cons rfl (.nil)) rfl fun i a6 m6 c6 hx ih=>?_;have hm1:=meltRefl (g:=g);obtain ⟨hx1,hs⟩:=hx;refine S.seq<|S.seq<|S.region rfl<|O.q 2 rfl<|O.op (.p rfl) (.len rfl underlying39 rfl)<|O.op (.p rfl) (.lss rfl rfl)<|O.nil ?_
 first|refine S.condD rfl (fun h8=>?_) (fun h8=>?_)|refine S.condB rfl (fun h8=>?_) (fun h8=>?_)
 ·have hi:i<xss.length:=by omega
  have h1:=flat_len xss i hi;have h2:=flat_le xss (i+1);have h3:(xss.take (i+1)).flatten.length=(xss.take i).flatten.length+xss[i].length:=by rw [h1,List.length_append]
  refine S.skip<|S.seq<|S.block<|S.region rfl<|O.q 3 rfl<|O.ia (.p rfl) underlying39 size31 rfl rfl rfl (by first|assumption|exact Arr.mono hg zF|exact Arr.left zF|exact Arr.left (Arr.mono hg zF)) (h:=fun p14 cs14 hp14 hr14=>?_);obtain ⟨v14,rfl,ha14⟩:=hr14;obtain ⟨a14,c14,rfl⟩:=ha14.shape;refine O.op (.p rfl) (.loadAt flat31 rfl hp14 rfl) ?_;refine O.opE (.p rfl) (.appendP (T:=Rp.u8) pure_u8 underlying31 elem5 zE rfl rfl zB (by first|assumption|exact Arr.mono hg zF|exact Arr.left zF|exact Arr.left (Arr.mono hg zF)) zI zI) ?_;rintro _ _ ⟨a16,c16,rfl,rfl⟩;refine O.q 1 rfl<|O.nil<|S.inBlock<|S.region rfl<|O.q 1 rfl<|O.op (.p rfl) (.add rfl rfl (IntWalk.i64_in _ zD))<|O.q 1 rfl<|O.nil ?_;rw [← h1];exact S.wk (ih (i+1) (a16) ((xss.take i).flatten.length+xss[i].length) (c16) zD zD)
 ·have hi:i=xss.length:=by omega
  subst hi;rw [List.take_length] at hs;subst hs;refine S.exit rfl<|S.seq<|S.region rfl<|O.q 2 rfl<|O.nil<|S.ret results64 rfl fun w hw=>hR _ _ w ?_ hw;exact ⟨a6,c6,rfl,by rw [List.take_length]⟩
theorem refNewReader_c {r:Fr} {va:Value} {xs:List UInt8} (ha:Arr Rp.u8 r va xs) (hl:xs.length≤140737488355328) :
  Con prog 131 #[va] r [] (Ret fun v η=>∃ b a c,v=.pointer (some ⟨b,0,none⟩)∧η=[obj b 254 [.slice a xs.length c,.int .i64 0,.bool false],OwnP Rp.u8 5 (.slice a xs.length c) xs]):=by
 refine Con.o func131 fun g hg R hR=>?_;have ha:=ha.mono hg;obtain ⟨a1,c1,rfl⟩:=ha.shape;refine zz 6 ?_;refine O.opE (.p rfl) (.litP (T:=Rp.u8) (ys:=[]) underlying31 elem5 zE rfl rfl trivial zE) ?_;rintro _ _ ⟨a3,c3,rfl,rfl⟩;refine O.q 1 rfl<|O.opE (.p rfl) (.appendP (T:=Rp.u8) pure_u8 underlying31 elem5 zE rfl rfl zB zA zI zI) ?_;rintro _ _ ⟨a5,c5,rfl,rfl⟩;refine O.op (.p rfl) (.build (cs:=[_,_,_]) underlying254 rfl rfl rfl rfl rfl)<|O.opE (.p rfl) (.box (cs:=[_,_,_]) rfl rfl) ?_;rintro _ _ ⟨b7,rfl,rfl⟩;refine zz 2 ?_;simp only [List.length_nil,Nat.zero_add,List.nil_append];exact S.rt results131 rfl hR ⟨b7,a5,c5,rfl,rfl⟩
theorem refGood_c {r:Fr} {b:Nat} {v u:Value} {bad:Bool}:Con prog 133 #[.pointer (some ⟨b,0,none⟩)] r [obj b 254 [v,u,.bool bad]] (Ret fun z η=>z=.bool (!bad)∧η=[obj b 254 [v,u,.bool bad]]):=by
 refine Con.o func133 fun g hg R hR=>?_;refine zz 10 ?_;refine O.op (.p rfl) ((by first|exact .notD rfl|exact .not rfl)) ?_;refine O.q 1 rfl<|O.nil<|S.ret results133 rfl fun w hw=>hR _ _ w ?_ hw;exact ⟨rfl,rfl⟩
theorem refDone_c {r:Fr} {b p:Nat} {v:Value} {xs:List UInt8} {bad:Bool} (ha:Arr Rp.u8 r v xs):Con prog 136 #[.pointer (some ⟨b,0,none⟩)] r [obj b 254 [v,.int .i64 (p:Int),.bool bad]]
  (Ret fun z η=>z=.bool (!bad && decide (p=xs.length))∧η=[obj b 254 [v,.int .i64 (p:Int),.bool bad]]):=by
 refine Con.o func136 fun g hg R hR=>?_;obtain ⟨a1,c1,rfl⟩:=ha.shape;refine S.frzT (B:=obj b 254 [.slice a1 xs.length c1,.int .i64 (p:Int),.bool bad]) zB fun g2 hs2 ⟨m,hm,hsm⟩ th=>?_;have hat:=(obj_at hm).mono hsm
 cases bad with
 |true =>
  refine zz 5 ?_;refine S.regionD (L:=.range 18) F.mixed zC ?_;refine zz 4 ?_;refine OD.sT 6 rfl zM ?_;refine zz 15 ?_;refine th ?_;refine S.ret results136 rfl fun w hw=>hR _ _ w ?_ hw;exact ⟨rfl,rfl⟩
 |false =>
  refine zz 5 ?_;refine S.regionD (L:=.range 18) F.mixed zC ?_;refine zz 4 ?_;refine OD.sF 6 rfl zM ?_;refine zz 15 ?_;refine th ?_;refine S.ret results136 rfl fun w hw=>hR _ _ w ?_ hw;have e:((p:Int)=(xs.length:Int))↔p=xs.length:=by omega
  exact ⟨by simp [e],rfl⟩
def lok (bad:Bool) (n:Int) (p len:Nat):Bool:=!bad && decide (0≤n∧n+(p:Int)≤(len:Int))
theorem refLeft_c {r:Fr} {b p:Nat} {v:Value} {xs:List UInt8} {bad:Bool} (n:Int) (ha:Arr Rp.u8 r v xs) (hp:p≤xs.length):Con prog 233 #[.pointer (some ⟨b,0,none⟩),.int .i64 n] r [obj b 254 [v,.int .i64 (p:Int),.bool bad]]
  (Ret fun z η=>z=.bool (lok bad n p xs.length)∧η=[obj b 254 [v,.int .i64 (p:Int),.bool (!lok bad n p xs.length)]]):=by
 refine Con.o func233 fun g hg R hR=>?_;have hbd:=ha.bound;obtain ⟨a1,c1,rfl⟩:=ha.shape;refine S.frzT (B:=obj b 254 [.slice a1 xs.length c1,.int .i64 (p:Int),.bool bad]) zB fun g2 hs2 ⟨m,hm,hsm⟩ th=>?_;have hat:=(obj_at hm).mono hsm
 cases bad with
 |true =>
  refine zz 6 ?_;refine S.regionD (L:=.range 22) F.mixed zC ?_;refine zz 4 ?_;refine OD.sT 8 rfl zM ?_;refine zz 21 ?_;refine th ?_;refine zz 10 ?_;refine S.ret results233 rfl fun w hw=>hR _ _ w ?_ hw;exact ⟨by simp [lok],by simp [lok]⟩
 |false =>
  by_cases h1:n<0
  ·have e:lok false n p xs.length=false:=by simp [lok];omega
   refine zz 6 ?_;refine S.regionD (L:=.range 22) F.mixed zC ?_;refine zz 4 ?_;refine OD.sF 8 rfl zM ?_;refine zz 3 ?_;refine OD.sT 11 rfl zJ ?_;refine zz 18 ?_;refine th ?_;refine zz 10 ?_;refine S.ret results233 rfl fun w hw=>hR _ _ w ?_ hw;rw [e];exact ⟨rfl,rfl⟩
  ·by_cases h2:n>(xs.length:Int) - (p:Int)
   ·have e:lok false n p xs.length=false:=by simp [lok];omega
    refine zz 6 ?_;refine S.regionD (L:=.range 22) F.mixed zC ?_;refine zz 4 ?_;refine OD.sF 8 rfl zM ?_;refine zz 3 ?_;refine OD.sF 11 rfl zJ ?_;refine zz 14 ?_;refine OD.sT 25 rfl zJ ?_;refine zz 4 ?_;refine th ?_;refine zz 10 ?_;refine S.ret results233 rfl fun w hw=>hR _ _ w ?_ hw;rw [e];exact ⟨rfl,rfl⟩
   ·have e:lok false n p xs.length=true:=by simp [lok];omega
    refine zz 6 ?_;refine S.regionD (L:=.range 22) F.mixed zC ?_;refine zz 4 ?_;refine OD.sF 8 rfl zM ?_;refine zz 3 ?_;refine OD.sF 11 rfl zJ ?_;refine zz 14 ?_;refine OD.sF 25 rfl zJ ?_;refine zz 8 ?_;refine th ?_;refine S.ret results233 rfl fun w hw=>hR _ _ w ?_ hw;rw [e];exact ⟨rfl,rfl⟩
theorem drop_get {xs:List UInt8} {p:Nat} (h:p<xs.length):xs.drop p=xs[p]::xs.drop (p+1):=List.drop_eq_getElem_cons h
theorem refByte_c {r:Fr} {b p:Nat} {v:Value} {xs:List UInt8} {bad:Bool} (ha:Arr Rp.u8 r v xs) (hp:p≤xs.length):Con prog 234 #[.pointer (some ⟨b,0,none⟩)] r [obj b 254 [v,.int .i64 (p:Int),.bool bad]]
  (Ret fun z η=>∃ p',p' ≤xs.length∧xs.drop p' =(rByte (!bad) (xs.drop p)).2.1∧z=byteV (rByte (!bad) (xs.drop p)).1∧η=[obj b 254 [v,.int .i64 (p' :Int),.bool (bad ||(rByte (!bad) (xs.drop p)).2.2)]]):=by
 refine Con.o func234 fun g hg R hR=>?_;have hbd:=ha.bound;obtain ⟨a1,c1,rfl⟩:=ha.shape
 by_cases hk:bad=false∧p<xs.length
 ·obtain ⟨rfl,hk⟩:=hk
  have e:lok false 1 p xs.length=true:=by simp [lok];omega
  have ha' :=ha.mono hg;refine zz 8 ?_;refine O.vS (.p rfl) rfl zC rfl rfl zB ((refLeft_c 1 ha hp).sub hg) ?_;refine O.sT 4 rfl (by exact e) ?_;refine zz 16 ?_;rw [e];refine S.frzT (B:=obj b 254 [.slice a1 xs.length c1,.int .i64 ((p:Int)+1),.bool (!true)]) zB fun g2 hs2 ⟨m,hm,hsm⟩ th=>?_;have hat:=(obj_at hm).mono hsm;replace ha' :=ha'.mono hs2;refine S.regionD (L:=.range 12) F.mixed zC ?_;refine zz 9 ?_;refine OD.ia (.p rfl) underlying31 size5 rfl rfl (show _=(((p):Nat):Int) by omega) zA (h:=fun p22 cs22 hp22 hr22=>?_)
  cases hr22
  refine zz 1 ?_;refine OD.q 1 rfl<|ODx.nil<|th ?_;refine S.ret results234 rfl fun w hw=>hR _ _ w ?_ hw;rw [drop_get hk];exact ⟨p+1,by omega,rfl,rfl,rfl⟩
 ·have e:lok bad 1 p xs.length=false:=by cases bad<;>simp [lok] at hk ⊢;omega
  have hm:rByte (!bad) (xs.drop p)=(0,xs.drop p,!bad):=by
   cases bad with
   |true=>rfl
   |false=>rw [List.drop_eq_nil_of_le (by simp at hk;exact hk)];rfl
  refine zz 8 ?_;refine O.vS (.p rfl) rfl zC rfl rfl zB ((refLeft_c 1 ha hp).sub hg) ?_;refine O.sF 4 rfl (by exact e) ?_;refine zz 7 ?_;refine S.ret results234 rfl fun w hw=>hR _ _ w ?_ hw;rw [hm];exact ⟨p,hp,rfl,rfl,by rw [e];simp⟩
theorem refNumber2_c {r:Fr} {b p:Nat} {v:Value} {xs:List UInt8} {bad:Bool} (ha:Arr Rp.u8 r v xs) (hp:p≤xs.length) (hl:xs.length≤1000000000):Con prog 199 #[.pointer (some ⟨b,0,none⟩)] r [obj b 254 [v,.int .i64 (p:Int),.bool bad]]
  (Ret fun z η=>∃ p',p' ≤xs.length∧xs.drop p' =(rNum (!bad) (xs.drop p)).2.1∧z=.int .i64 (rNum (!bad) (xs.drop p)).1∧η=[obj b 254 [v,.int .i64 (p' :Int),.bool (bad ||(rNum (!bad) (xs.drop p)).2.2)]]):=by
 refine Con.o func199 fun g hg R hR=>?_;obtain ⟨a1,c1,rfl⟩:=ha.shape
 by_cases hk:bad=false∧p+8≤xs.length
 ·obtain ⟨rfl,hk⟩:=hk
  have e:lok false 8 p xs.length=true:=by simp [lok];omega
  have hm0:rNum true (xs.drop p)=(ofBe (xs.drop p),xs.drop (p+8),false):=by
   unfold rNum;rw [if_pos rfl,if_pos zJ,List.drop_drop]
  have ha' :=ha.mono hg;refine zz 8 ?_;refine O.vS (.p rfl) rfl zC rfl rfl zB ((refLeft_c 8 ha hp).sub hg) ?_;refine O.sT 6 rfl (by exact e) ?_;refine zz 14 ?_;rw [e];refine S.frzT (B:=obj b 254 [.slice a1 xs.length c1,.int .i64 (p:Int),.bool (!true)]) zB fun g2 hs2 ⟨m,hm,hsm⟩ th=>?_;have hat:=(obj_at hm).mono hsm;replace ha' :=ha'.mono hs2;refine S.loopK (ι:=Nat) (fun i=>i≤8) (fun i=>[(4,.int .i64 (i:Int)),(3,.int .u64 (beVal ((xs.drop p).take i):Nat))]) [(0,_)] (fun i=>[]) (fun i=>8 - i) (0) zG zq zq rfl fun i hx ih=>?_;have hm1:=meltRefl (g:=g);refine zz 6 ?_;refine S.cd rfl (fun h9=>?_) fun h9=>?_
  ·have hi:i<8:=by omega
   have hlen:i<(xs.drop p).length:=by simp;omega
   refine zz 3 ?_;refine S.regionD (L:=.range 17) F.mixed zC ?_;refine zz 1 ?_;refine .quiet (.p rfl) rfl (fun _=>.shl rfl rfl zD) ?_;refine zz 10 ?_;refine OD.ia (.p rfl) underlying31 size5 rfl rfl (show _=(((p+i):Nat):Int) by omega) zA (h:=fun p24 cs24 hp24 hr24=>?_)
   cases hr24
   refine zz 1 ?_;refine .quiet (.p rfl) rfl (fun _=>.cvt underlying5 underlying195 rfl)<|.quiet (.p rfl) rfl (fun _=>.or rfl rfl) ?_;refine zz 8 ?_;rw [show xs[p+i]=(xs.drop p)[i] from by simp,or_byte _ _ (beVal_lt7 (xs.drop p) i hi),← beVal_take (xs.drop p) i hlen];exact S.wk (ih (i+1) zD zD)
  ·have hi:i=8:=by omega
   subst hi;refine S.exit rfl<|S.seq<|th ?_;refine zz 10 ?_;refine O.nil<|S.seq<|S.region rfl<|O.q 1 rfl<|O.op (.p rfl) (.cvt underlying195 underlying3 rfl)<|O.q 1 rfl<|O.nil<|S.ret results199 rfl fun w hw=>hR _ _ w ?_ hw;rw [Bool.not_false,hm0];exact ⟨p+8,by omega,rfl,by rw [wrap_i64_eq _ (Nat.lt_of_lt_of_le (beVal_lt (xs.drop p) 8) zE)];rfl,rfl⟩
 ·have e:lok bad 8 p xs.length=false:=by cases bad<;>simp [lok] at hk ⊢;omega
  have hm:rNum (!bad) (xs.drop p)=(0,xs.drop p,!bad):=by
   cases bad with
   |true=>rfl
   |false=>unfold rNum;rw [Bool.not_false,if_pos rfl,if_neg (by simp at hk ⊢;omega)]
  refine zz 8 ?_;refine O.vS (.p rfl) rfl zC rfl rfl zB ((refLeft_c 8 ha hp).sub hg) ?_;refine O.sF 6 rfl (by exact e) ?_;refine zz 7 ?_;refine S.ret results199 rfl fun w hw=>hR _ _ w ?_ hw;rw [hm];exact ⟨p,hp,rfl,rfl,by rw [e];simp⟩
theorem refCount_c {r:Fr} {b p:Nat} {v:Value} {xs:List UInt8} {bad:Bool} (most:Int) (ha:Arr Rp.u8 r v xs) (hp:p≤xs.length) (hl:xs.length≤1000000000):Con prog 132 #[.pointer (some ⟨b,0,none⟩),.int .i64 most] r [obj b 254 [v,.int .i64 (p:Int),.bool bad]]
  (Ret fun z η=>∃ p',p' ≤xs.length∧xs.drop p' =(rCount most (!bad) (xs.drop p)).2.1∧z=.int .i64 (rCount most (!bad) (xs.drop p)).1∧η=[obj b 254 [v,.int .i64 (p' :Int),.bool (bad ||(rCount most (!bad) (xs.drop p)).2.2)]]):=by
 refine Con.o func132 fun g hg R hR=>?_;obtain ⟨z,rest,f,hE⟩:∃ z rest f,rNum (!bad) (xs.drop p)=(z,rest,f):=⟨_,_,_,rfl⟩;have hC:rCount most (!bad) (xs.drop p)=if bad ||f then (z,rest,f) else if 0≤z∧z≤most then (z,rest,false) else (0,rest,true):=by
  unfold rCount rNum at *
  cases bad with
  |true=>simp at hE ⊢;exact hE
  |false =>
   simp only [Bool.not_false,if_true] at hE ⊢
   split at hE<;>rename_i h8
   ·cases hE;rw [if_pos h8];rfl
   ·cases hE;rw [if_neg h8];rfl
 have con:=refNumber2_c (b:=b) (bad:=bad) ha hp hl;rw [hE] at con
 by_cases hb:(bad ||f)=true
 ·have hz:z=0:=by
   unfold rNum at hE;cases bad with
   |true=>simp at hE;exact hE.1.symm
   |false =>
    simp only [Bool.not_false,if_true] at hE;split at hE
    ·cases hE;simp at hb
    ·cases hE;rfl
  subst hz;refine zz 7 ?_;refine O.callS (.p rfl) rfl zC rfl rfl zB (con.sub hg) ?_;rintro v7 _ ⟨p',hp',hd',rfl,rfl⟩;refine zz 9 ?_;refine O.sT 11 rfl (by exact hb) ?_;refine zz 22 ?_;refine S.ret results132 rfl fun w hw=>hR _ _ w ?_ hw;rw [hC,if_pos hb];exact ⟨p',hp',hd',rfl,by rw [hb];rfl⟩
 ·have hb' :(bad ||f)=false:=by simpa using hb
  by_cases hz:0≤z∧z≤most
  ·
   refine zz 7 ?_;refine O.callS (.p rfl) rfl zC rfl rfl zB (con.sub hg) ?_;rintro v7 _ ⟨p',hp',hd',rfl,rfl⟩;refine zz 9 ?_;refine O.sF 11 rfl (by exact hb') ?_;refine zz 3 ?_;refine O.sF 14 rfl zJ ?_;refine zz 5 ?_;refine O.sF 19 rfl zJ ?_;refine zz 9 ?_;refine S.ret results132 rfl fun w hw=>hR _ _ w ?_ hw;rw [hC,if_neg hb,if_pos hz];exact ⟨p',hp',hd',rfl,by rw [hb'];cases bad<;>simp at hb' ⊢⟩
  ·by_cases hz0:z<0
   ·
    refine zz 7 ?_;refine O.callS (.p rfl) rfl zC rfl rfl zB (con.sub hg) ?_;rintro v7 _ ⟨p',hp',hd',rfl,rfl⟩;refine zz 9 ?_;refine O.sF 11 rfl (by exact hb') ?_;refine zz 3 ?_;refine O.sT 14 rfl zJ ?_;refine zz 19 ?_;refine S.ret results132 rfl fun w hw=>hR _ _ w ?_ hw;rw [hC,if_neg hb,if_neg hz];exact ⟨p',hp',hd',rfl,by rw [Bool.or_true];rfl⟩
   ·
    refine zz 7 ?_;refine O.callS (.p rfl) rfl zC rfl rfl zB (con.sub hg) ?_;rintro v7 _ ⟨p',hp',hd',rfl,rfl⟩;refine zz 9 ?_;refine O.sF 11 rfl (by exact hb') ?_;refine zz 3 ?_;refine O.sF 14 rfl zJ ?_;refine zz 5 ?_;refine O.sT 19 rfl zJ ?_;refine zz 14 ?_;refine S.ret results132 rfl fun w hw=>hR _ _ w ?_ hw;rw [hC,if_neg hb,if_neg hz];exact ⟨p',hp',hd',rfl,by rw [Bool.or_true];rfl⟩
theorem refBytes2_c {r:Fr} {b p:Nat} {v:Value} {xs:List UInt8} {bad:Bool} (most:Int) (ha:Arr Rp.u8 r v xs) (hp:p≤xs.length) (hl:xs.length≤1000000000):Con prog 134 #[.pointer (some ⟨b,0,none⟩),.int .i64 most] r [obj b 254 [v,.int .i64 (p:Int),.bool bad]]
  (Ret fun z η=>∃ a c p',p' ≤xs.length∧xs.drop p' =(rBytes most (!bad) (xs.drop p)).2.1∧z=.slice a (rBytes most (!bad) (xs.drop p)).1.length c ∧
   η=[obj b 254 [v,.int .i64 (p' :Int),.bool (bad ||(rBytes most (!bad) (xs.drop p)).2.2)],OwnP Rp.u8 5 z (rBytes most (!bad) (xs.drop p)).1]):=by
 refine Con.o func134 fun g hg R hR=>?_;obtain ⟨a1,c1,rfl⟩:=ha.shape;obtain ⟨z,rest,f,hE⟩:∃ z rest f,rCount most (!bad) (xs.drop p)=(z,rest,f):=⟨_,_,_,rfl⟩;have hB:rBytes most (!bad) (xs.drop p)=if bad ||f then ([],rest,f) else if z.toNat≤rest.length then (rest.take z.toNat,rest.drop z.toNat,false) else ([],rest,true):=by
  unfold rBytes rCount at *
  cases bad with
  |true=>simp at hE ⊢;exact ⟨hE.2.1,hE.2.2⟩
  |false =>
   simp only [Bool.not_false,if_true,Bool.false_or] at hE ⊢
   split at hE<;>rename_i h8
   ·rw [if_pos h8]
    split at hE<;>rename_i h9
    ·cases hE;rw [if_pos h9];simp
    ·cases hE;rw [if_neg h9];rfl
   ·cases hE;rw [if_neg h8];rfl
 have hz0:0≤z:=by
  unfold rCount at hE;cases bad with
  |true=>simp at hE;omega
  |false =>
   simp only [Bool.not_false,if_true] at hE
   split at hE
   ·split at hE<;>rename_i h9
    ·cases hE;exact h9.1
    ·cases hE;omega
   ·cases hE;omega
 have con:=refCount_c (b:=b) (bad:=bad) most ha hp hl;rw [hE] at con
 by_cases hb:(bad ||f)=true
 ·
  refine zz 8 ?_;refine O.callS (.p rfl) rfl zC rfl rfl zB (con.sub hg) ?_;rintro v8 _ ⟨p',hp',hd',rfl,rfl⟩;refine zz 7 ?_;refine O.vS (.p rfl) rfl zC rfl rfl zB ((refLeft_c z ha hp').sub hg) ?_;refine O.sF 11 rfl (by simp [lok,hb]) ?_;refine zz 7 ?_;refine S.addNil (T:=Rp.u8) (e:=5) ?_;refine S.ret results134 rfl fun w hw=>Holds.end_ hR hw ?_;rw [hB,if_pos hb];exact ⟨_,⟨none,0,p',hp',hd',rfl,rfl⟩,by rw [show lok (bad ||f) z p' xs.length=false from by simp [lok,hb],hb];exact Picks.cons (.there .here) (Picks.cons .here Picks.nil)⟩
 ·have hb' :(bad ||f)=false:=by simpa using hb
  rw [hb'] at con
  by_cases hz:z.toNat≤rest.length
  ·have ha' :=ha.mono hg
   refine zz 8 ?_;refine O.callS (.p rfl) rfl zC rfl rfl zB (con.sub hg) ?_;rintro v8 _ ⟨p',hp',hd',rfl,rfl⟩;refine zz 7 ?_;have hrl:rest.length=xs.length - p' :=by have h9:=congrArg List.length hd';simpa using h9.symm
   have e:lok false z p' xs.length=true:=by simp [lok];omega
   refine O.vS (.p rfl) rfl zC rfl rfl zB ((refLeft_c z ha hp').sub hg) ?_;refine O.sT 11 rfl (by exact e) ?_;refine zz 18 ?_;rw [e];refine S.frzT (B:=obj b 254 [.slice a1 xs.length c1,.int .i64 ((p' :Int)+z),.bool (!true)]) zB fun g2 hs2 ⟨m,hm,hsm⟩ th=>?_;have hat:=(obj_at hm).mono hsm;replace ha' :=ha'.mono hs2;refine S.regionD (L:=[1,2,3,4,5,6,7,8,9,10,11,12,13,14,15,0,16,17]) F.mixed zC ?_;refine zz 14 ?_;refine OD.sliceMid (a:=p') (b:=p' +z.toNat) (.p rfl) underlying31 size5 rfl rfl rfl zF zI zI zI zI (fun u37 ha37=>?_);obtain ⟨a37,c37,rfl⟩:=ha37.shape;refine OD.litP (T:=Rp.u8) (ys:=[]) (.p rfl) zC underlying31 elem5 zE rfl rfl trivial zE (fun a22 c22=>?_);refine OD.appendP (.p rfl) zC (T:=Rp.u8) pure_u8 underlying31 elem5 zE rfl rfl zB zA zI zI (fun a38 c38=>?_);refine OD.q 1 rfl<|ODx.nil<|th ?_;have e2:(p' :Int)+z=((p' +z.toNat:Nat):Int):=by omega
   have h9:xs.drop p' =rest:=hd';have e1:(xs.take (p' +z.toNat)).drop p' =rest.take z.toNat:=by rw [List.drop_take,h9];congr 1;omega
   rw [e2];simp only [List.length_nil,Nat.zero_add,List.nil_append,e1];refine S.ret results134 rfl fun w hw=>Holds.end_ hR hw ?_;rw [hB,if_neg hb,if_pos hz];exact ⟨_,⟨a38,c38,p' +z.toNat,by omega,by rw [← List.drop_drop,h9],rfl,rfl⟩,by rw [Bool.or_false];cases bad<;>first|(simp at hb';done)|exact Picks.cons .here (Picks.cons .here Picks.nil)⟩
  ·
   refine zz 8 ?_;refine O.callS (.p rfl) rfl zC rfl rfl zB (con.sub hg) ?_;rintro v8 _ ⟨p',hp',hd',rfl,rfl⟩;refine zz 7 ?_;have hrl:rest.length=xs.length - p' :=by have h9:=congrArg List.length hd';simpa using h9.symm
   have e:lok false z p' xs.length=false:=by simp [lok];omega
   refine O.vS (.p rfl) rfl zC rfl rfl zB ((refLeft_c z ha hp').sub hg) ?_;refine O.sF 11 rfl (by exact e) ?_;refine zz 7 ?_;refine S.addNil (T:=Rp.u8) (e:=5) ?_;refine S.ret results134 rfl fun w hw=>Holds.end_ hR hw ?_;rw [hB,if_neg hb,if_neg hz];exact ⟨_,⟨none,0,p',hp',hd',rfl,rfl⟩,by rw [e];cases bad<;>exact Picks.cons (.there .here) (Picks.cons .here Picks.nil)⟩
theorem rfNew_c {r:Fr} {va:Value} {xs:List UInt8} (ha:Arr Rp.u8 r va xs) (hl:xs.length≤1000000000):Con prog 131 #[va] r [] (Ret fun v η=>∃ b,v=.pointer (some ⟨b,0,none⟩)∧η=[RfP 254 b ⟨true,xs⟩]) :=
 (refNewReader_c ha zD).post fun e η' h w g hw=>by
  cases e with
  |returned u =>
   obtain ⟨b,a,c,rfl,rfl⟩:=h;exact ⟨_,⟨b,rfl,rfl⟩,hw.imp fun _ x=>rf_sat hl x⟩
  |panicked _=>exact h.elim
  |outgrown=>exact h.elim
theorem rfNumber_c {r:Fr} {b:Nat} {s:RS}:Con prog 199 #[.pointer (some ⟨b,0,none⟩)] r [RfP 254 b s] (Ret fun u η=>u=.int .i64 s.num.1∧η=[RfP 254 b s.num.2]) :=
 (Con.rf (Q:=fun u s' ζ=>u=.int .i64 s.num.1∧s' =s.num.2∧ζ=[]) fun m v xs p bad h1 h2 h3 h4 h5=>(refNumber2_c h2 h3 h4).mono (Ret.imp fun u η h=>by
  obtain ⟨p',h6,h7,rfl,rfl⟩:=h;simp only [h1,h5] at h7 ⊢;exact ⟨p',_,s.num.2,_,⟨rfl,rfl,rfl⟩,⟨good_or' h1,h6,h7⟩,rfl⟩)).mono (Ret.imp fun u η h=>by obtain ⟨s',ζ,⟨rfl,rfl,rfl⟩,rfl⟩:=h;exact ⟨rfl,rfl⟩)
theorem rfByte_c {r:Fr} {b:Nat} {s:RS}:Con prog 234 #[.pointer (some ⟨b,0,none⟩)] r [RfP 254 b s] (Ret fun u η=>u=byteV s.byte.1∧η=[RfP 254 b s.byte.2]) :=
 (Con.rf (Q:=fun u s' ζ=>u=byteV s.byte.1∧s' =s.byte.2∧ζ=[]) fun m v xs p bad h1 h2 h3 h4 h5=>(refByte_c h2 h3).mono (Ret.imp fun u η h=>by
  obtain ⟨p',h6,h7,rfl,rfl⟩:=h;simp only [h1,h5] at h7 ⊢;exact ⟨p',_,s.byte.2,_,⟨rfl,rfl,rfl⟩,⟨good_or' h1,h6,h7⟩,rfl⟩)).mono (Ret.imp fun u η h=>by obtain ⟨s',ζ,⟨rfl,rfl,rfl⟩,rfl⟩:=h;exact ⟨rfl,rfl⟩)
theorem rfCount_c {r:Fr} {b:Nat} {s:RS} (most:Int):Con prog 132 #[.pointer (some ⟨b,0,none⟩),.int .i64 most] r [RfP 254 b s] (Ret fun u η=>u=.int .i64 (s.count most).1∧η=[RfP 254 b (s.count most).2]) :=
 (Con.rf (Q:=fun u s' ζ=>u=.int .i64 (s.count most).1∧s' =(s.count most).2∧ζ=[]) fun m v xs p bad h1 h2 h3 h4 h5=>(refCount_c most h2 h3 h4).mono (Ret.imp fun u η h=>by
  obtain ⟨p',h6,h7,rfl,rfl⟩:=h;simp only [h1,h5] at h7 ⊢;exact ⟨p',_,(s.count most).2,_,⟨rfl,rfl,rfl⟩,⟨good_or' h1,h6,h7⟩,rfl⟩)).mono (Ret.imp fun u η h=>by obtain ⟨s',ζ,⟨rfl,rfl,rfl⟩,rfl⟩:=h;exact ⟨rfl,rfl⟩)
theorem rfBytes_c {r:Fr} {b:Nat} {s:RS} (most:Int):Con prog 134 #[.pointer (some ⟨b,0,none⟩),.int .i64 most] r [RfP 254 b s] (Ret fun u η=>∃ a c,u=.slice a (s.bytes most).1.length c∧η=[RfP 254 b (s.bytes most).2,OwnP Rp.u8 5 (.slice a (s.bytes most).1.length c) (s.bytes most).1]) :=
 (Con.rf (Q:=fun u s' ζ=>∃ a c,u=.slice a (s.bytes most).1.length c∧s' =(s.bytes most).2∧ζ=[OwnP Rp.u8 5 (.slice a (s.bytes most).1.length c) (s.bytes most).1]) fun m v xs p bad h1 h2 h3 h4 h5=>(refBytes2_c most h2 h3 h4).mono (Ret.imp fun u η h=>by
  obtain ⟨a,c,p',h6,h7,rfl,rfl⟩:=h;simp only [h1,h5] at h7 ⊢;exact ⟨p',_,(s.bytes most).2,_,⟨a,c,rfl,rfl,rfl⟩,⟨good_or' h1,h6,h7⟩,rfl⟩)).mono (Ret.imp fun u η h=>by obtain ⟨s',ζ,⟨a,c,rfl,rfl,rfl⟩,rfl⟩:=h;exact ⟨a,c,rfl,rfl⟩)
theorem rfGood_c {r:Fr} {b:Nat} {s:RS}:Con prog 133 #[.pointer (some ⟨b,0,none⟩)] r [RfP 254 b s] (Ret fun u η=>u=.bool s.good∧η=[RfP 254 b s]) :=
 (Con.rf (Q:=fun u s' ζ=>u=.bool s.good∧s' =s∧ζ=[]) fun m v xs p bad h1 h2 h3 h4 h5=>refGood_c.mono (Ret.imp fun u η h=>by
  obtain ⟨rfl,rfl⟩:=h;rw [h1];exact ⟨p,bad,s,[],⟨rfl,rfl,rfl⟩,⟨h1,h3,h5⟩,rfl⟩)).mono (Ret.imp fun u η h=>by obtain ⟨s',ζ,⟨rfl,rfl,rfl⟩,rfl⟩:=h;exact ⟨rfl,rfl⟩)
theorem rfDone_c {r:Fr} {b:Nat} {s:RS}:Con prog 136 #[.pointer (some ⟨b,0,none⟩)] r [RfP 254 b s] (Ret fun u η=>u=.bool s.done∧η=[RfP 254 b s]) :=
 (Con.rf (Q:=fun u s' ζ=>u=.bool s.done∧s' =s∧ζ=[]) fun m v xs p bad h1 h2 h3 h4 h5=>(refDone_c h2).mono (Ret.imp fun u η h=>by
  obtain ⟨rfl,rfl⟩:=h;have e:(decide (p=xs.length))=decide (s.rest.length=0):=by rw [← h5,List.length_drop];exact decide_eq_decide.2 zD
  rw [h1,e];exact ⟨p,bad,s,[],⟨rfl,rfl,rfl⟩,⟨h1,h3,h5⟩,rfl⟩)).mono (Ret.imp fun u η h=>by obtain ⟨s',ζ,⟨rfl,rfl,rfl⟩,rfl⟩:=h;exact ⟨rfl,rfl⟩)
theorem r7dot_c {r:Fr} {a b:Int} (d:DotT) (h:d=(a,b,())):Con prog 286 #[.agg #[.int .i64 a,.int .i64 b]] r [] (Ret fun v η=>v=.bool (dotOk d)∧η=[]):=by
 subst h;refine Con.o func286 fun g hg R hR=>?_;refine S.seq<|S.region rfl<|O.opE (.p rfl) (.box (cs:=[_,_]) rfl rfl) ?_;rintro _ _ ⟨b1,rfl,rfl⟩;refine zz 8 ?_
 first|refine O.caseD 6 rfl (fun h6=>?_) (fun h6=>?_)|refine O.caseB 6 rfl (fun h6=>?_) (fun h6=>?_)
 ·refine zz 5 ?_
  first|refine O.caseD 11 rfl (fun h11=>?_) (fun h11=>?_)|refine O.caseB 11 rfl (fun h11=>?_) (fun h11=>?_)
  ·refine zz 5 ?_
   first|refine O.caseD 16 rfl (fun h16=>?_) (fun h16=>?_)|refine O.caseB 16 rfl (fun h16=>?_) (fun h16=>?_)
   ·refine zz 6 ?_
    refine S.ret results286 rfl fun w hw=>Holds.end_ hR hw ?_
    first|exact ⟨_,⟨congrArg _ (decide_eq_false zV).symm,rfl⟩,by repeat (first|exact zpa|exact zpn|(apply zpc;focus (repeat (first|exact zh|apply zt)))|apply zps)⟩|exact ⟨_,⟨congrArg _ (decide_eq_decide.2 zV),rfl⟩,by repeat (first|exact zpa|exact zpn|(apply zpc;focus (repeat (first|exact zh|apply zt)))|apply zps)⟩
   ·refine O.q 5 rfl<|O.nil<|S.ret results286 rfl fun w hw=>Holds.end_ hR hw ?_
    first|exact ⟨_,⟨congrArg _ (decide_eq_false zV).symm,rfl⟩,by repeat (first|exact zpa|exact zpn|(apply zpc;focus (repeat (first|exact zh|apply zt)))|apply zps)⟩|exact ⟨_,⟨congrArg _ (decide_eq_decide.2 zV),rfl⟩,by repeat (first|exact zpa|exact zpn|(apply zpc;focus (repeat (first|exact zh|apply zt)))|apply zps)⟩
  ·refine O.q 10 rfl<|O.nil<|S.ret results286 rfl fun w hw=>Holds.end_ hR hw ?_
   first|exact ⟨_,⟨congrArg _ (decide_eq_false zV).symm,rfl⟩,by repeat (first|exact zpa|exact zpn|(apply zpc;focus (repeat (first|exact zh|apply zt)))|apply zps)⟩|exact ⟨_,⟨congrArg _ (decide_eq_decide.2 zV),rfl⟩,by repeat (first|exact zpa|exact zpn|(apply zpc;focus (repeat (first|exact zh|apply zt)))|apply zps)⟩
 ·refine O.q 15 rfl<|O.nil<|S.ret results286 rfl fun w hw=>Holds.end_ hR hw ?_
  first|exact ⟨_,⟨congrArg _ (decide_eq_false zV).symm,rfl⟩,by repeat (first|exact zpa|exact zpn|(apply zpc;focus (repeat (first|exact zh|apply zt)))|apply zps)⟩|exact ⟨_,⟨congrArg _ (decide_eq_decide.2 zV),rfl⟩,by repeat (first|exact zpa|exact zpn|(apply zpc;focus (repeat (first|exact zh|apply zt)))|apply zps)⟩
theorem r7right_c {r:Fr} {va:Value} {v:List DotT} (ha:Arr DotRp r va v):Con prog 287 #[va] r [] (Ret fun u η=>u=.bool (vecOk v)∧η=[]):=by
 refine Con.o func287 fun g hg R hR=>?_;have ha:=ha.mono hg;have hbd:=ha.bound;obtain ⟨a1,c1,rfl⟩:=ha.shape;refine zz 10 ?_;refine S.loopK (ι:=Nat) (fun k=>k≤v.length∧vecOk (v.take k)=true) (fun k=>[(3,.int .i64 (k:Int))]) [(0,_)] (fun k=>[]) (fun k=>v.length - k) (0) zO zq zq rfl fun k hx ih=>?_;have hm1:=meltRefl (g:=g);obtain ⟨hx1,hx2⟩:=hx;refine zz 8 ?_;refine S.cd rfl (fun h7=>?_) fun h7=>?_
 ·have hk:k<v.length:=by omega
  have hst:=vecOk_step hk hx2
  by_cases hd:dotOk v[k]=true
  ·by_cases h0:k=0
   ·
    refine S.skip<|S.seq<|S.block<|S.seq<|S.regionD (L:=.range 24) F.mixed zC<|OD.q 2 rfl<|OD.ia (.p rfl) underlying72 size166 rfl rfl rfl zA (h:=fun p12 cs12 hp12 hr12=>?_);obtain ⟨rfl,hi12,hj12⟩:=DotRp.open hr12;refine .quiet (.p rfl) rfl (fun _=>.loadAgg isAgg166 zC rfl hp12) ?_;refine OD.v0 (.p rfl) zC rfl zC rfl rfl ((r7dot_c v[k] rfl)) ?_;refine OD.sT 14 rfl (by exact hd) ?_;refine zz 4 ?_;refine OD.sF 18 rfl (by exact decide_eq_false zD) ?_;refine zz 24 ?_;exact S.wk (ih (k+1) (by exact ⟨by omega,hst.2 ⟨hd,fun h=>absurd h zD⟩⟩) zD)
   ·have hk1:k - 1<v.length:=by omega
    by_cases hlt:v[k - 1].1<v[k].1
    ·
     refine S.skip<|S.seq<|S.block<|S.seq<|S.regionD (L:=.range 24) F.mixed zC<|OD.q 2 rfl<|OD.ia (.p rfl) underlying72 size166 rfl rfl rfl zA (h:=fun p12 cs12 hp12 hr12=>?_);obtain ⟨rfl,hi12,hj12⟩:=DotRp.open hr12;refine .quiet (.p rfl) rfl (fun _=>.loadAgg isAgg166 zC rfl hp12) ?_;refine OD.v0 (.p rfl) zC rfl zC rfl rfl ((r7dot_c v[k] rfl)) ?_;refine OD.sT 14 rfl (by exact hd) ?_;refine zz 4 ?_;refine OD.sT 18 rfl (by exact decide_eq_true zD) ?_;refine zz 4 ?_;refine OD.ia (.g rfl rfl) underlying72 size166 rfl rfl (show _=(((k - 1):Nat):Int) by omega) zA (h:=fun p23 cs23 hp23 hr23=>?_);obtain ⟨rfl,hi23,hj23⟩:=DotRp.open hr23;refine zz 2 ?_;refine OD.q 2 rfl<|OD.ia (.g rfl rfl) underlying72 size166 rfl rfl rfl zA (h:=fun p28 cs28 hp28 hr28=>?_);obtain ⟨rfl,hi28,hj28⟩:=DotRp.open hr28;refine zz 3 ?_;refine OD.sF 31 rfl (by exact decide_eq_false zD) ?_;refine zz 11 ?_;exact S.wk (ih (k+1) (by exact ⟨by omega,hst.2 ⟨hd,fun _=>hlt⟩⟩) zD)
    ·
     refine S.skip<|S.seq<|S.block<|S.seq<|S.regionD (L:=.range 24) F.mixed zC<|OD.q 2 rfl<|OD.ia (.p rfl) underlying72 size166 rfl rfl rfl zA (h:=fun p12 cs12 hp12 hr12=>?_);obtain ⟨rfl,hi12,hj12⟩:=DotRp.open hr12;refine .quiet (.p rfl) rfl (fun _=>.loadAgg isAgg166 zC rfl hp12) ?_;refine OD.v0 (.p rfl) zC rfl zC rfl rfl ((r7dot_c v[k] rfl)) ?_;refine OD.sT 14 rfl (by exact hd) ?_;refine zz 4 ?_;refine OD.sT 18 rfl (by exact decide_eq_true zD) ?_;refine zz 4 ?_;refine OD.ia (.g rfl rfl) underlying72 size166 rfl rfl (show _=(((k - 1):Nat):Int) by omega) zA (h:=fun p23 cs23 hp23 hr23=>?_);obtain ⟨rfl,hi23,hj23⟩:=DotRp.open hr23;refine zz 2 ?_;refine OD.q 2 rfl<|OD.ia (.g rfl rfl) underlying72 size166 rfl rfl rfl zA (h:=fun p28 cs28 hp28 hr28=>?_);obtain ⟨rfl,hi28,hj28⟩:=DotRp.open hr28;refine zz 3 ?_;refine OD.sT 31 rfl (by exact decide_eq_true zD) ?_;refine zz 8 ?_;exact S.rt results287 rfl hR ⟨congrArg _ (vecOk_none (i:=k+1) (Bool.eq_false_iff.2 fun e=>hlt ((hst.1 e).2 zD))).symm,rfl⟩
  ·have hd' :dotOk v[k]=false:=by simpa using hd
   refine S.skip<|S.seq<|S.block<|S.seq<|S.regionD (L:=.range 24) F.mixed zC<|OD.q 2 rfl<|OD.ia (.p rfl) underlying72 size166 rfl rfl rfl zA (h:=fun p12 cs12 hp12 hr12=>?_);obtain ⟨rfl,hi12,hj12⟩:=DotRp.open hr12;refine .quiet (.p rfl) rfl (fun _=>.loadAgg isAgg166 zC rfl hp12) ?_;refine OD.v0 (.p rfl) zC rfl zC rfl rfl ((r7dot_c v[k] rfl)) ?_;refine OD.sF 14 rfl (by exact hd') ?_;refine zz 25 ?_;exact S.rt results287 rfl hR ⟨congrArg _ (vecOk_none (i:=k+1) (Bool.eq_false_iff.2 fun e=>hd (hst.1 e).1)).symm,rfl⟩
 ·clear ih
  have hk:k=v.length:=by omega
  subst hk;rw [List.take_length] at hx2;refine zz 5 ?_;exact S.rt results287 rfl hR ⟨by rw [hx2],rfl⟩
theorem r7up_c {r:Fr} {va:Value} {v:List DotT} (c:Int) (ha:Arr DotRp r va v) (ho:vecOk v=true) :
  Con prog 288 #[va,.int .i64 c] r [] (Ret fun u η=>∃ z,u=.int .i64 z∧(∀ s,1≤s→decide (s≤z)=hasM v (c,s,()))∧η=[]):=by
 have hri:=(vecOk_iff.1 ho).2;refine Con.o func288 fun g hg R hR=>?_;have ha:=ha.mono hg;have hbd:=ha.bound;obtain ⟨a1,c1,rfl⟩:=ha.shape;refine zz 10 ?_;refine S.loopK (ι:=Nat) (fun k=>k≤v.length∧∀ x∈v.take k,¬ x.1=c) (fun k=>[(5,.int .i64 (k:Int))]) [(0,_),(1,_)] (fun k=>[]) (fun k=>v.length - k) (0) (by exact ⟨by simp,by simp⟩) zq zq rfl fun k hx ih=>?_;have hm1:=meltRefl (g:=g);obtain ⟨hx1,hx2⟩:=hx;refine zz 8 ?_;refine S.cd rfl (fun h9=>?_) fun h9=>?_
 ·have hk:k<v.length:=by omega
  by_cases e:v[k].1=c
  ·
   refine zz 7 ?_;refine O.ia (.p rfl) underlying72 size166 rfl rfl rfl zA (h:=fun p14 cs14 hp14 hr14=>?_);obtain ⟨rfl,hi14,hj14⟩:=DotRp.open hr14;refine O.op (.p rfl) (.fieldAddr fld166x0 rfl) ?_;refine zz 3 ?_;refine O.sT 18 rfl (by exact decide_eq_true e) ?_;refine zz 6 ?_;refine O.ia (.p rfl) underlying72 size166 rfl rfl rfl zA (h:=fun p21 cs21 hp21 hr21=>?_);obtain ⟨rfl,hi21,hj21⟩:=DotRp.open hr21;refine O.op (.p rfl) (.fieldAddr fld166x1 rfl) ?_;refine zz 3 ?_;exact S.rt results288 rfl hR ⟨_,rfl,fun s _=>(hasM_at (d:=(c,s,())) hri hk e).symm,rfl⟩
  ·
   refine zz 7 ?_;refine O.ia (.p rfl) underlying72 size166 rfl rfl rfl zA (h:=fun p14 cs14 hp14 hr14=>?_);obtain ⟨rfl,hi14,hj14⟩:=DotRp.open hr14;refine O.op (.p rfl) (.fieldAddr fld166x0 rfl) ?_;refine zz 3 ?_;refine O.sF 18 rfl (by exact decide_eq_false e) ?_;refine zz 9 ?_;exact S.wk (ih (k+1) (by exact ⟨by omega,mem_take_succ hk hx2 e⟩) zD)
 ·clear ih
  have hk:k=v.length:=by omega
  subst hk;rw [List.take_length] at hx2;refine zz 5 ?_;exact S.rt results288 rfl hR ⟨0,rfl,fun s hs=>by rw [decide_eq_false zD];exact (List.any_eq_false.2 fun x hx=>by simp [hx2 x hx]).symm,rfl⟩
theorem r7has_c {r:Fr} {va:Value} {v:List DotT} {a b:Int} (d:DotT) (h:d=(a,b,())) (ha:Arr DotRp r va v) :
  Con prog 216 #[va,.agg #[.int .i64 a,.int .i64 b]] r [] (Ret fun u η=>u=.bool (hasR v d)∧η=[]):=by
 subst h;refine Con.o func216 fun g hg R hR=>?_;have ha:=ha.mono hg;obtain ⟨a1,c1,rfl⟩:=ha.shape;refine S.seq<|S.region rfl<|O.opE (.p rfl) (.box (cs:=[_,_]) rfl rfl) ?_;rintro _ _ ⟨b3,rfl,rfl⟩;refine zz 3 ?_;refine S.frzO zB fun g hs hm hb3=>?_;replace hg:=Fr.sub_trans hg hs;replace hR:=melted hR hm
 try replace ha:=ha.mono hs
 clear hs hm
 cases e1:vecOk v with
 |false =>
  refine S.regionD (L:=[0,1,2,3,4,5,6,7,8,9,11,12,10,13,14,15]) F.mixed zC ?_;refine OD.q 1 rfl<|OD.v0 (.p rfl) zC rfl zC rfl rfl ((r7right_c ha)) ?_;refine OD.sF 6 rfl (by exact e1) ?_;refine zz 15 ?_;exact S.rt results216 rfl hR ⟨by simp [hasR,e1],rfl⟩
 |true =>
  cases e2:dotOk (a,b,()) with
  |false =>
   refine S.regionD (L:=[0,1,2,3,4,5,6,7,8,9,11,12,10,13,14,15]) F.mixed zC ?_;refine OD.q 1 rfl<|OD.v0 (.p rfl) zC rfl zC rfl rfl ((r7right_c ha)) ?_;refine OD.sT 6 rfl (by exact e1) ?_;refine OD.q 1 rfl<|.quiet (.g rfl rfl) rfl (fun _=>.loadAgg isAgg166 zC rfl hb3) ?_;refine OD.v0 (.g rfl rfl) zC rfl zC rfl rfl ((r7dot_c _ rfl)) ?_;refine OD.sF 9 rfl (by exact e2) ?_;refine zz 12 ?_;exact S.rt results216 rfl hR ⟨by simp [hasR,e1,e2],rfl⟩
  |true =>
   have hb:=(dotOk_iff.1 e2).2.2.1;refine S.regionD (L:=[0,1,2,3,4,5,6,7,8,9,11,12,10,13,14,15]) F.mixed zC ?_;refine OD.q 1 rfl<|OD.v0 (.p rfl) zC rfl zC rfl rfl ((r7right_c ha)) ?_;refine OD.sT 6 rfl (by exact e1) ?_;refine OD.q 1 rfl<|.quiet (.g rfl rfl) rfl (fun _=>.loadAgg isAgg166 zC rfl hb3) ?_;refine OD.v0 (.g rfl rfl) zC rfl zC rfl rfl ((r7dot_c _ rfl)) ?_;refine OD.sT 9 rfl (by exact e2) ?_;refine zz 7 ?_;refine OD.call0 (.g rfl rfl) zC rfl zC rfl rfl ((r7up_c _ ha e1)) ?_;rintro v15 _ ⟨z,rfl,hz,rfl⟩;refine zz 4 ?_;exact S.rt results216 rfl hR ⟨congrArg _ (by rw [hasR,e1,e2,← hz b hb];rfl),rfl⟩
end Go.Proofs.YtodhbhanmdfdeaaGreat
