/- Texts of this proof. -/
import Derived.Test.YtodhbhanmdfdeaaGreatQLent4
import Derived.Test.YtodhbhanmdfdeaaGreatQSpRs3
open Go Go.Sp Go.Proofs.Tryz
set_option maxRecDepth 100000
set_option maxHeartbeats 1000000
attribute [local irreducible] obj Own OwnP
namespace Go.Proofs.YtodhbhanmdfdeaaGreat
def SetK (b:List UInt8) (v:Value) (η:List SProp):Prop:=∃ l a c,sGet b=some l∧v=.slice a l.length c∧η=[ListP (RecG tys) 74 (.slice a l.length c) l]
theorem recG_sat {x:RecT} {v3 v5 v6:Value} {m:Fr} (h:recOk x=true) (hs:Sat (recWs x v3 v5 v6) m):(RecG tys).own (recV x v3 v5 v6) x m:=by
 have h1:=shaped_iff.1 (recOk_iff.1 h).1;have hd:=dotOk_iff.1 h1.2.2.1;simp only [rDot] at hd;exact RecG.mk zC ⟨by omega,by omega⟩ ⟨by omega,by omega⟩ hs
theorem sget1_c {r:Fr} {p:Nat} {va:Value} {b:List UInt8} (hp:At r ⟨p,0,none⟩ [va]) (ha:Arr Rp.u8 r va b) (hl:b.length≤1000000000) :
  Con prog 126 (#[]++#[]++#[.pointer (some ⟨p,0,none⟩)]) r [] (RetP (fun v η=>SetK b v η) (fun ch η=>∃ z,ch=errP 32 z∧(sGet b=none∧z=4)∧η=[])):=by
 refine Con.of (n:=37) [.pointer (some ⟨p,0,none⟩)] rfl func126 rfl rfl rfl fun g hg R hR=>?_;have hp:=hp.mono hg;have ha:=ha.mono hg;have hbd:=ha.bound;obtain ⟨a1,c1,rfl⟩:=ha.shape;refine S.seq<|S.region rfl<|O.q 1 rfl<|O.nil<|S.seq<|S.region rfl<|O.op (.p rfl) (.loadAt flat31 rfl hp rfl) ?_;refine O.call0 (.p rfl) rfl zD rfl rfl (rdNew_c (by first|assumption|exact Arr.mono hg zE|exact Arr.left zE|exact Arr.left (Arr.mono hg zE)) zL) ?_;rintro _ _ ⟨b7,rfl,rfl⟩
 try simp only [zx1,zx2,zx3]
 refine O.q 1 rfl<|O.nil<|S.seq<|S.region rfl<|O.q 1 rfl<|O.nil<|S.seq<|S.seq<|S.region rfl<|O.q 1 rfl<|O.op (.p rfl) (.loadAt flat31 rfl hp rfl) ?_;refine O.op (.p rfl) (.len rfl underlying31 rfl)<|O.op (.p rfl) (.quo rfl rfl zC)<|O.slot 11 (v' :=.int .i64 ((b.length / 8:Nat):Int)) rfl (by rw [Int.tdiv_eq_ediv_of_nonneg zC,IntWalk.i64_in _ zC];rfl) ?_;refine O.callS (.p rfl) rfl zD rfl rfl zB (rdCount_c _) ?_;rintro _ _ ⟨rfl,rfl⟩
 try simp only [zx1,zx2,zx3]
 refine O.q 1 rfl<|O.nil (S.block ?_);obtain ⟨c,hc⟩:∃ c,(RS.mk true b).count ((b.length / 8:Nat):Int)=c:=⟨_,rfl⟩;rw [hc];have lc:c.2.rest.length≤1000000000:=by rw [← hc];exact Nat.le_trans (RS.count_len _ _) hl
 obtain ⟨n0,n8⟩:0≤c.1∧c.1≤((b.length / 8:Nat):Int):=by rw [← hc];exact RS.count_bd _ _ zC
 refine S.listNil (RecG tys) 74 ?_;refine S.loopK3 (ι:=Nat) (κ:=List RecT × RS) (υ:=Option Addr × Nat) (fun i x a=>i≤c.1.toNat∧setP b.length i c.2=some x) (fun i x a=>[(13,.int .i64 (i:Int)),(3,.slice a.1 x.1.length a.2)]) [(0,_),(2,_),(12,_)] (fun i x a=>[ListP (RecG tys) 74 (.slice a.1 x.1.length a.2) x.1,RdP 226 b7 x.2]) (fun i x a=>c.1.toNat - i) (0) (([],c.2)) ((none,0)) (by exact ⟨by omega,rfl⟩) (.cons rfl (.cons rfl (.nil))) (.cons rfl (.cons rfl (.cons rfl (.nil)))) rfl fun i x a hx ih=>?_;have hm1:=meltRefl (g:=g);obtain ⟨hx1,hx2⟩:=hx;have hxl:=(setP_bad hx2).2;have hxr:=setP_len hx2;refine S.seq<|S.region rfl<|O.op (.p rfl) (.lss rfl rfl)<|O.nil (S.seq ?_)
 first|refine S.condD rfl (fun h14=>?_) (fun h14=>?_)|refine S.condB rfl (fun h14=>?_) (fun h14=>?_)
 ·have hi:i<c.1.toNat:=by omega
  have hout:=RS.bytes_out (b.length:Int) x.2
  cases e:recGet (x.2.bytes b.length).1 with
  |none =>
   have hno:sGet b=none:=sGet_none hc (k:=i+1) zC (setP_stop hx2 e);refine S.skip<|S.seq<|S.block<|S.seq<|S.region rfl<|O.q 1 rfl<|O.op (.p rfl) (.loadAt flat31 rfl hp rfl) ?_;refine O.op (.p rfl) (.len rfl underlying31 rfl)<|O.callS (.p rfl) rfl zD rfl rfl zB (rdBytes_c _ zL) ?_;rintro _ _ ⟨a19,c19,rfl,rfl⟩
   try simp only [zx1,zx2,zx3]
   refine O.frzA zB fun g hs hm ha19=>?_;replace hg:=Fr.sub_trans hg hs;replace hR:=melted hR hm
   try replace hp:=hp.mono hs
   try replace ha:=ha.mono hs
   replace hm1:=meltTrans hm1 hm;clear hs hm;refine O.call0 (.p rfl) rfl zD rfl rfl ((rGetN_c e ha19 zC)) ?_;rintro _ _ ⟨rfl,rfl⟩
   try simp only [zx1,zx2,zx3]
   refine O.q 3 rfl<|O.opE (.p rfl) (.alloc (cs:=[.string ⟨#[]⟩,.int .i64 0,.int .i64 0,.slice none 0 0,.bool false,.slice none 0 0,.slice none 0 0]) zeroValue74 rfl) ?_;rintro _ _ ⟨b4,rfl,rfl⟩;refine O.opU rfl (.storeObj zD rfl rfl rfl rfl zB zK) ?_;refine O.q 1 rfl<|O.nil<|S.seq<|S.region rfl<|O.q 1 rfl<|O.op (.p rfl) (.eql rfl rfl)<|O.sF 24 rfl zF ?_;refine O.callP0 (.p rfl) rfl zD rfl rfl (smust_c _) (fun ch η' w hX hW=>by (obtain ⟨_,rfl,rfl⟩:=hX;exact hR _ _ w ⟨4,rfl,⟨hno,rfl⟩,rfl⟩ hW.drop_all)) ?_;rintro _ _ ⟨hb25,rfl,rfl⟩
   try simp only [zx1,zx2,zx3]
   exact absurd hb25 zG
  |some z =>
   have hok:=(recGet_iff.1 e).1;refine S.skip<|S.seq<|S.block<|S.seq<|S.region rfl<|O.q 1 rfl<|O.op (.p rfl) (.loadAt flat31 rfl hp rfl) ?_;refine O.op (.p rfl) (.len rfl underlying31 rfl)<|O.callS (.p rfl) rfl zD rfl rfl zB (rdBytes_c _ zL) ?_;rintro _ _ ⟨a19,c19,rfl,rfl⟩
   try simp only [zx1,zx2,zx3]
   refine O.frzA zB fun g hs hm ha19=>?_;replace hg:=Fr.sub_trans hg hs;replace hR:=melted hR hm
   try replace hp:=hp.mono hs
   try replace ha:=ha.mono hs
   replace hm1:=meltTrans hm1 hm;clear hs hm;refine O.call0 (.p rfl) rfl zD rfl rfl ((rGetY_c e ha19 zC)) ?_;rintro _ _ ⟨a3,c3,a5,c5,a6,c6,rfl,rfl⟩
   try simp only [zx1,zx2,zx3]
   refine O.q 3 rfl<|O.opE (.p rfl) (.alloc (cs:=[.string ⟨#[]⟩,.int .i64 0,.int .i64 0,.slice none 0 0,.bool false,.slice none 0 0,.slice none 0 0]) zeroValue74 rfl) ?_;rintro _ _ ⟨b4,rfl,rfl⟩;refine O.opU rfl (.storeObj zD rfl rfl rfl rfl zB zK) ?_;refine O.q 1 rfl<|O.nil<|S.seq<|S.region rfl<|O.q 1 rfl<|O.op (.p rfl) (.eql rfl rfl)<|O.sT 24 rfl zF ?_;refine O.callP0 (.p rfl) rfl zD rfl rfl (smust_c _) (fun ch η' w hX hW=>by (exact absurd hX.1 zG)) ?_;rintro _ _ ⟨hb25,rfl,rfl⟩
   try simp only [zx1,zx2,zx3]
   refine O.nil<|S.listOpen (k' :=7) rfl zB fun css hcl=>?_;rw [← hcl];refine S.region rfl<|O.q 1 rfl<|O.op (.p rfl) (.loA (news:=[_,_,_,_,_,_,_]) isAgg74) ?_;refine O.opE (.p rfl) (.litP (T:=(Rp.cells 7)) (ys:=[_]) underlying47 elem74 zF rfl rfl ⟨⟨rfl,rfl,by first|(simp;done)|(intro v hv;simp [Value.cells] at hv;rcases hv with rfl|rfl<;>rfl)|(refine List.forall_mem_cons.2 ⟨rfl,?_⟩;repeat (first|exact (fun _ h=>absurd h List.not_mem_nil)|refine List.forall_mem_cons.2 ⟨rfl,?_⟩))⟩,trivial⟩ zF) ?_;rintro _ _ ⟨a28,c28,rfl,rfl⟩;refine O.opE (.p rfl) (.appendO (T:=(Rp.cells 7)) underlying47 elem74 zF rfl rfl zB zB zL zL) ?_;rintro _ _ ⟨a29,c29,rfl,rfl⟩;refine O.q 1 rfl<|O.nil<|S.inBlock<|S.region rfl<|O.op (.p rfl) (.add rfl rfl (IntWalk.i64_in _ zC))<|O.q 1 rfl<|O.nil<|S.foldS (A:=(RecG tys).own (recV z (.slice a3 z.2.2.2.1.length c3) (.slice a5 z.2.2.2.2.2.1.length c5) (.slice a6 z.2.2.2.2.2.2.1.length c6)) z) (bs:=recWs z (.slice a3 z.2.2.2.1.length c3) (.slice a5 z.2.2.2.2.2.1.length c5) (.slice a6 z.2.2.2.2.2.2.1.length c6)) zN (fun m h=>recG_sat hok h) ?_;refine S.listPut (G:=RecG tys) (k' :=7) rfl zB zB zB ?_;simp only [List.length_singleton];rw [show css.length+1=(x.1++[z]).length from by simp [hcl]];exact S.melt hm1 (S.pw (ih (i+1) ((x.1++[z],(x.2.bytes b.length).2)) ((a29,c29)) (by exact ⟨by omega,setP_next hx2 e⟩) zC))
 ·clear ih
  have hi:i=c.1.toNat:=by omega
  subst hi;have hgt:=sGet_eq hc hx2;obtain ⟨l,s⟩:=x
  cases e1:s.done with
  |false =>
   have hno:sGet b=none:=by rw [hgt,if_neg (fun q=>by rw [e1] at q;exact absurd q.1 zF)]
   refine S.exit rfl<|S.seq<|S.region rfl<|O.q 1 rfl<|O.callS (.p rfl) rfl zD rfl rfl zB rdDone_c ?_;rintro _ _ ⟨rfl,rfl⟩
   try simp only [zx1,zx2,zx3]
   refine O.sF 32 rfl (by exact e1) ?_;refine O.callP0 (.p rfl) rfl zD rfl rfl (smust_c _) (fun ch η' w hX hW=>by (obtain ⟨_,rfl,rfl⟩:=hX;exact hR _ _ w ⟨4,rfl,⟨hno,rfl⟩,rfl⟩ hW.drop_all)) ?_;rintro _ _ ⟨hb33,rfl,rfl⟩
   try simp only [zx1,zx2,zx3]
   exact absurd hb33 zG
  |true =>
   refine S.exit rfl<|S.seq<|S.region rfl<|O.q 1 rfl<|O.callS (.p rfl) rfl zD rfl rfl zB rdDone_c ?_;rintro _ _ ⟨rfl,rfl⟩
   try simp only [zx1,zx2,zx3]
   refine O.sT 32 rfl (by exact e1) ?_;refine O.callP0 (.p rfl) rfl zD rfl rfl (smust_c _) (fun ch η' w hX hW=>by (exact absurd hX.1 zG)) ?_;rintro _ _ ⟨hb33,rfl,rfl⟩
   try simp only [zx1,zx2,zx3]
   refine O.nil (S.seq ?_);have hg_q:=hg;have hR_q:=hR
   try have hp_q:=hp
   try have ha_q:=ha
   refine S.frzH (B:=ListP (RecG tys) 74 (.slice a.1 l.length a.2) l) zB fun gq hsq ⟨mq,hmq,hsmq⟩ hbq=>?_;replace hg:=Fr.sub_trans hg hsq;replace hR:=backR hR hbq
   try replace hp:=hp.mono hsq
   try replace ha:=ha.mono hsq
   have hlr:Arr RecRp gq.h (.slice a.1 l.length a.2) l:=(ListP.arr hmq).mono hsmq;refine S.region rfl<|O.q 1 rfl<|O.callP0 (.p rfl) rfl zD rfl rfl ((rowOf_c hlr (by simp only at hxl;omega))) (fun ch η' w hX hW=>by (obtain ⟨hb,rfl,rfl⟩:=hX;exact hR _ _ w ⟨4,rfl,⟨by rw [hgt,if_neg (fun q=>hb q.2)],rfl⟩,rfl⟩ hW.drop_all)) ?_;rintro _ _ ⟨hright,b35,rfl,rfl⟩
   try simp only [zx1,zx2,zx3]
   refine O.nil<|S.seq<|S.back hbq ?_;replace hg:=hg_q;replace hR:=hR_q
   try replace hp:=hp_q
   try replace ha:=ha_q
   clear hg_q hR_q;have hyes:sGet b=some l:=by rw [hgt,if_pos ⟨e1,hright⟩]
   refine S.region rfl<|O.q 2 rfl<|O.nil ?_;exact S.rt results126 rfl hR ⟨l,a.1,a.2,hyes,rfl,rfl⟩
def set_t (b:List UInt8) (v:Value) (η:List SProp):Prop:=(∃ u,SetK b u η∧v=.tuple #[u,.int .i64 0])∨(sGet b=none∧v=.tuple #[.slice none 0 0,.int .i64 4]∧η=[])
theorem sTriedG_c {r:Fr} {first cap:Array Value} {b:List UInt8} (con:Con prog 126 (first++#[]++cap) r [] (RetP (fun v η=>SetK b v η) (fun ch η=>∃ z,ch=errP 32 z∧(sGet b=none∧z=4)∧η=[]))) (h1:(Value.func (.func 126) first cap).oneCell' =true:=by rfl) :
  Con prog 102 #[.func (.func 126) first cap] r [] (Ret fun v η=>set_t b v η) :=
 (triedSS_c zD h1 (fun _ _ h=>by obtain ⟨l,a,c,_,rfl,_⟩:=h;rfl) con).mono (Ret.imp fun v η h=>by
  rcases h with ⟨u,h2,h3⟩|⟨z,⟨h2,rfl⟩,h3,h4⟩
  ·exact .inl ⟨u,h2,h3⟩
  ·exact .inr ⟨h2,h4,h3⟩)
theorem set_tY {b:List UInt8} {l:List RecT} {v:Value} {η:List SProp} (e:sGet b=some l) (h:set_t b v η):∃ a c,v=.tuple #[.slice a l.length c,.int .i64 0]∧η=[ListP (RecG tys) 74 (.slice a l.length c) l]:=by
 rcases h with ⟨_,⟨y,a,c,h1,rfl,rfl⟩,rfl⟩|⟨h1,_⟩
 ·rw [e] at h1;obtain rfl:=Option.some.inj h1;exact ⟨a,c,rfl,rfl⟩
 ·rw [e] at h1;cases h1
theorem set_tN {b:List UInt8} {v:Value} {η:List SProp} (e:sGet b=none) (h:set_t b v η):v=.tuple #[.slice none 0 0,.int .i64 4]∧η=[]:=by
 rcases h with ⟨_,⟨y,a,c,h1,_⟩,_⟩|⟨_,h1,h2⟩
 ·rw [e] at h1;cases h1
 ·exact ⟨h1,h2⟩
theorem sGet_c {r:Fr} {va:Value} {b:List UInt8} (ha:Arr Rp.u8 r va b) (hl:b.length≤1000000000):Con prog 50 #[va] r [] (Ret fun v η=>set_t b v η):=by
 refine Con.of (n:=8) _ rfl func50 rfl rfl rfl fun g hg R hR=>?_;have ha:=ha.mono hg;obtain ⟨a1,c1,rfl⟩:=ha.shape
 cases e:sGet b with
 |some x =>
  refine S.seq<|S.region rfl<|O.opE (.p rfl) (.box (cs:=[_]) rfl rfl) ?_;rintro _ _ ⟨b1,rfl,rfl⟩;refine O.frzO zB fun g hs hm hb1=>?_;replace hg:=Fr.sub_trans hg hs;replace hR:=melted hR hm
  try replace ha:=ha.mono hs
  clear hs hm;refine O.q 2 rfl<|O.nil<|S.seq<|S.region rfl<|O.op (.p rfl) (.mkFunc rfl rfl)<|O.call0 (.p rfl) rfl zD rfl rfl (((sTriedG_c (sget1_c hb1 ha hl)).mono (Ret.imp fun _ _ h=>set_tY e h))) ?_;rintro _ _ ⟨a5,c5,rfl,rfl⟩
  try simp only [zx1,zx2,zx3]
  refine O.q 4 rfl<|O.nil<|S.ret2 results50 rfl rfl fun w hw=>Holds.end_ hR hw ?_;exact pk (.inl ⟨_,⟨x,a5,c5,e,rfl,rfl⟩,rfl⟩)
 |none =>
  refine S.seq<|S.region rfl<|O.opE (.p rfl) (.box (cs:=[_]) rfl rfl) ?_;rintro _ _ ⟨b1,rfl,rfl⟩;refine O.frzO zB fun g hs hm hb1=>?_;replace hg:=Fr.sub_trans hg hs;replace hR:=melted hR hm
  try replace ha:=ha.mono hs
  clear hs hm;refine O.q 2 rfl<|O.nil<|S.seq<|S.region rfl<|O.op (.p rfl) (.mkFunc rfl rfl)<|O.call0 (.p rfl) rfl zD rfl rfl (((sTriedG_c (sget1_c hb1 ha hl)).mono (Ret.imp fun _ _ h=>set_tN e h))) ?_;rintro _ _ ⟨rfl,rfl⟩
  try simp only [zx1,zx2,zx3]
  refine O.q 4 rfl<|O.nil<|S.ret2 results50 rfl rfl fun w hw=>Holds.end_ hR hw ?_;exact pk (.inr ⟨e,rfl,rfl⟩)
theorem refNewReader_c {r:Fr} {va:Value} {xs:List UInt8} (ha:Arr Rp.u8 r va xs) (hl:xs.length≤140737488355328) :
  Con prog 131 #[va] r [] (Ret fun v η=>∃ b a c,v=.pointer (some ⟨b,0,none⟩)∧η=[obj b 254 [.slice a xs.length c,.int .i64 0,.bool false],OwnP Rp.u8 5 (.slice a xs.length c) xs]):=by
 refine Con.of (n:=8) _ rfl func131 rfl rfl rfl fun g hg R hR=>?_;have ha:=ha.mono hg;obtain ⟨a1,c1,rfl⟩:=ha.shape;refine S.seq<|S.region rfl<|O.q 1 rfl<|O.nil<|S.seq<|S.region rfl<|O.opE (.p rfl) (.litP (T:=Rp.u8) (ys:=[]) underlying31 elem5 zF rfl rfl trivial zF) ?_;rintro _ _ ⟨a3,c3,rfl,rfl⟩;refine O.q 1 rfl<|O.opE (.p rfl) (.appendP (T:=Rp.u8) pure_u8 underlying31 elem5 zF rfl rfl zB (by first|assumption|exact Arr.mono hg zE|exact Arr.left zE|exact Arr.left (Arr.mono hg zE)) zL zL) ?_;rintro _ _ ⟨a5,c5,rfl,rfl⟩;refine O.op (.p rfl) (.build (cs:=[_,_,_]) underlying254 rfl rfl rfl rfl rfl)<|O.opE (.p rfl) (.box (cs:=[_,_,_]) rfl rfl) ?_;rintro _ _ ⟨b7,rfl,rfl⟩;refine O.q 1 rfl<|O.nil ?_;simp only [List.length_nil,Nat.zero_add,List.nil_append];exact S.rt results131 rfl hR ⟨b7,a5,c5,rfl,rfl⟩
theorem refGood_c {r:Fr} {b:Nat} {v u:Value} {bad:Bool}:Con prog 133 #[.pointer (some ⟨b,0,none⟩)] r [obj b 254 [v,u,.bool bad]] (Ret fun z η=>z=.bool (!bad)∧η=[obj b 254 [v,u,.bool bad]]):=by
 refine Con.of (n:=8) _ rfl func133 rfl rfl rfl fun g hg R hR=>?_;refine S.seq<|S.region rfl<|O.q 1 rfl<|O.nil<|S.seq<|S.region rfl<|O.q 1 rfl<|O.op (.p rfl) (.nilCheck rfl)<|O.op (.p rfl) (.fieldObj fld254x2 rfl)<|O.op (.p rfl) (.lo flat4) ?_;refine O.op (.p rfl) ((by first|exact .notD rfl|exact .not rfl)) ?_;refine O.q 1 rfl<|O.nil<|S.ret results133 rfl fun w hw=>hR _ _ w ?_ hw;exact ⟨rfl,rfl⟩
theorem refDone_c {r:Fr} {b p:Nat} {v:Value} {xs:List UInt8} {bad:Bool} (ha:Arr Rp.u8 r v xs):Con prog 136 #[.pointer (some ⟨b,0,none⟩)] r [obj b 254 [v,.int .i64 (p:Int),.bool bad]]
  (Ret fun z η=>z=.bool (!bad && decide (p=xs.length))∧η=[obj b 254 [v,.int .i64 (p:Int),.bool bad]]):=by
 refine Con.of (n:=20) _ rfl func136 rfl rfl rfl fun g hg R hR=>?_;obtain ⟨a1,c1,rfl⟩:=ha.shape;refine S.frzT (B:=obj b 254 [.slice a1 xs.length c1,.int .i64 (p:Int),.bool bad]) zB fun g2 hs2 ⟨m,hm,hsm⟩ th=>?_;have hat:=(obj_at hm).mono hsm
 cases bad with
 |true =>
  refine S.seq<|S.region rfl<|O.q 1 rfl<|O.nil<|S.seq<|S.regionD (L:=[0,1,2,3,4,5,6,7,8,9,10,11,12,13,14,15,16,17]) F.mixed zD<|OD.q 1 rfl<|.quiet (.p rfl) rfl (fun _=>.nilCheck rfl)<|.quiet (.p rfl) rfl (fun _=>.fieldAddr fld254x2 rfl)<|.quiet (.p rfl) rfl (fun _=>.loadAt flat4 rfl (hat.drop 2) rfl) ?_;refine OD.sT 6 rfl zR ?_;refine .quiet (.p rfl) rfl (fun _=>.not rfl)<|OD.q 13 rfl<|ODx.nil<|th ?_;refine S.ret results136 rfl fun w hw=>hR _ _ w ?_ hw;exact ⟨rfl,rfl⟩
 |false =>
  refine S.seq<|S.region rfl<|O.q 1 rfl<|O.nil<|S.seq<|S.regionD (L:=[0,1,2,3,4,5,6,7,8,9,10,11,12,13,14,15,16,17]) F.mixed zD<|OD.q 1 rfl<|.quiet (.p rfl) rfl (fun _=>.nilCheck rfl)<|.quiet (.p rfl) rfl (fun _=>.fieldAddr fld254x2 rfl)<|.quiet (.p rfl) rfl (fun _=>.loadAt flat4 rfl (hat.drop 2) rfl) ?_;refine OD.sF 6 rfl zR ?_;refine .quiet (.p rfl) rfl (fun _=>.not rfl)<|OD.q 2 rfl<|.quiet (.g rfl rfl) rfl (fun _=>.nilCheck rfl)<|.quiet (.g rfl rfl) rfl (fun _=>.fieldAddr fld254x1 rfl)<|.quiet (.g rfl rfl) rfl (fun _=>.loadAt flat3 rfl (hat.drop 1) rfl) ?_;refine OD.q 1 rfl<|.quiet (.g rfl rfl) rfl (fun _=>.nilCheck rfl)<|.quiet (.g rfl rfl) rfl (fun _=>.fieldAddr fld254x0 rfl)<|.quiet (.g rfl rfl) rfl (fun _=>.loadAt flat31 rfl hat rfl) ?_;refine .quiet (.g rfl rfl) rfl (fun _=>.len rfl underlying31 rfl)<|.quiet (.g rfl rfl) rfl (fun _=>.eql rfl rfl)<|OD.q 2 rfl<|ODx.nil<|th ?_;refine S.ret results136 rfl fun w hw=>hR _ _ w ?_ hw;have e:((p:Int)=(xs.length:Int))↔p=xs.length:=by omega
  exact ⟨by simp [e],rfl⟩
def lok (bad:Bool) (n:Int) (p len:Nat):Bool:=!bad && decide (0≤n∧n+(p:Int)≤(len:Int))
theorem refLeft_c {r:Fr} {b p:Nat} {v:Value} {xs:List UInt8} {bad:Bool} (n:Int) (ha:Arr Rp.u8 r v xs) (hp:p≤xs.length):Con prog 233 #[.pointer (some ⟨b,0,none⟩),.int .i64 n] r [obj b 254 [v,.int .i64 (p:Int),.bool bad]]
  (Ret fun z η=>z=.bool (lok bad n p xs.length)∧η=[obj b 254 [v,.int .i64 (p:Int),.bool (!lok bad n p xs.length)]]):=by
 refine Con.of (n:=30) _ rfl func233 rfl rfl rfl fun g hg R hR=>?_;have hbd:=ha.bound;obtain ⟨a1,c1,rfl⟩:=ha.shape;refine S.frzT (B:=obj b 254 [.slice a1 xs.length c1,.int .i64 (p:Int),.bool bad]) zB fun g2 hs2 ⟨m,hm,hsm⟩ th=>?_;have hat:=(obj_at hm).mono hsm
 cases bad with
 |true =>
  refine S.seq<|S.region rfl<|O.q 1 rfl<|O.nil<|S.seq<|S.seq<|S.regionD (L:=[0,1,2,3,4,5,6,7,8,9,10,11,12,13,14,15,16,17,18,19,20,21]) F.mixed zD<|OD.q 1 rfl<|.quiet (.p rfl) rfl (fun _=>.nilCheck rfl)<|.quiet (.p rfl) rfl (fun _=>.fieldAddr fld254x2 rfl)<|.quiet (.p rfl) rfl (fun _=>.loadAt flat4 rfl (hat.drop 2) rfl) ?_;refine OD.sT 8 rfl zR ?_;refine OD.q 18 rfl<|ODx.nil<|S.condT rfl<|S.seq<|th ?_;refine S.region rfl<|O.q 1 rfl<|O.op (.p rfl) (.nilCheck rfl)<|O.op (.p rfl) (.fieldObj fld254x2 rfl)<|O.opU rfl (.store1 flat4 rfl rfl zO zB zK) ?_;refine O.nil<|S.seq<|S.region rfl<|O.q 1 rfl<|O.nil<|S.ret results233 rfl fun w hw=>hR _ _ w ?_ hw;exact ⟨by simp [lok],by simp [lok]⟩
 |false =>
  by_cases h1:n<0
  ·have e:lok false n p xs.length=false:=by simp [lok];omega
   refine S.seq<|S.region rfl<|O.q 1 rfl<|O.nil<|S.seq<|S.seq<|S.regionD (L:=[0,1,2,3,4,5,6,7,8,9,10,11,12,13,14,15,16,17,18,19,20,21]) F.mixed zD<|OD.q 1 rfl<|.quiet (.p rfl) rfl (fun _=>.nilCheck rfl)<|.quiet (.p rfl) rfl (fun _=>.fieldAddr fld254x2 rfl)<|.quiet (.p rfl) rfl (fun _=>.loadAt flat4 rfl (hat.drop 2) rfl) ?_;refine OD.sF 8 rfl zR ?_;refine OD.q 2 rfl<|.quiet (.g rfl rfl) rfl (fun _=>.lss rfl rfl)<|OD.sT 11 rfl zI ?_;refine OD.q 15 rfl<|ODx.nil<|S.condT rfl<|S.seq<|th ?_;refine S.region rfl<|O.q 1 rfl<|O.op (.p rfl) (.nilCheck rfl)<|O.op (.p rfl) (.fieldObj fld254x2 rfl)<|O.opU rfl (.store1 flat4 rfl rfl zO zB zK) ?_;refine O.nil<|S.seq<|S.region rfl<|O.q 1 rfl<|O.nil<|S.ret results233 rfl fun w hw=>hR _ _ w ?_ hw;rw [e];exact ⟨rfl,rfl⟩
  ·by_cases h2:n>(xs.length:Int) - (p:Int)
   ·have e:lok false n p xs.length=false:=by simp [lok];omega
    refine S.seq<|S.region rfl<|O.q 1 rfl<|O.nil<|S.seq<|S.seq<|S.regionD (L:=[0,1,2,3,4,5,6,7,8,9,10,11,12,13,14,15,16,17,18,19,20,21]) F.mixed zD<|OD.q 1 rfl<|.quiet (.p rfl) rfl (fun _=>.nilCheck rfl)<|.quiet (.p rfl) rfl (fun _=>.fieldAddr fld254x2 rfl)<|.quiet (.p rfl) rfl (fun _=>.loadAt flat4 rfl (hat.drop 2) rfl) ?_;refine OD.sF 8 rfl zR ?_;refine OD.q 2 rfl<|.quiet (.g rfl rfl) rfl (fun _=>.lss rfl rfl)<|OD.sF 11 rfl zI ?_;refine OD.q 4 rfl<|.quiet (.g rfl rfl) rfl (fun _=>.nilCheck rfl)<|.quiet (.g rfl rfl) rfl (fun _=>.fieldAddr fld254x0 rfl)<|.quiet (.g rfl rfl) rfl (fun _=>.loadAt flat31 rfl hat rfl) ?_;refine .quiet (.g rfl rfl) rfl (fun _=>.len rfl underlying31 rfl)<|OD.q 1 rfl<|.quiet (.g rfl rfl) rfl (fun _=>.nilCheck rfl)<|.quiet (.g rfl rfl) rfl (fun _=>.fieldAddr fld254x1 rfl)<|.quiet (.g rfl rfl) rfl (fun _=>.loadAt flat3 rfl (hat.drop 1) rfl) ?_;refine .quiet (.g rfl rfl) rfl (fun _=>.sub rfl rfl (IntWalk.i64_in _ zC))<|.quiet (.g rfl rfl) rfl (fun _=>.gtr rfl rfl)<|OD.sT 25 rfl zI ?_;refine OD.q 1 rfl<|ODx.nil<|S.condT rfl<|S.seq<|th ?_;refine S.region rfl<|O.q 1 rfl<|O.op (.p rfl) (.nilCheck rfl)<|O.op (.p rfl) (.fieldObj fld254x2 rfl)<|O.opU rfl (.store1 flat4 rfl rfl zO zB zK) ?_;refine O.nil<|S.seq<|S.region rfl<|O.q 1 rfl<|O.nil<|S.ret results233 rfl fun w hw=>hR _ _ w ?_ hw;rw [e];exact ⟨rfl,rfl⟩
   ·have e:lok false n p xs.length=true:=by simp [lok];omega
    refine S.seq<|S.region rfl<|O.q 1 rfl<|O.nil<|S.seq<|S.seq<|S.regionD (L:=[0,1,2,3,4,5,6,7,8,9,10,11,12,13,14,15,16,17,18,19,20,21]) F.mixed zD<|OD.q 1 rfl<|.quiet (.p rfl) rfl (fun _=>.nilCheck rfl)<|.quiet (.p rfl) rfl (fun _=>.fieldAddr fld254x2 rfl)<|.quiet (.p rfl) rfl (fun _=>.loadAt flat4 rfl (hat.drop 2) rfl) ?_;refine OD.sF 8 rfl zR ?_;refine OD.q 2 rfl<|.quiet (.g rfl rfl) rfl (fun _=>.lss rfl rfl)<|OD.sF 11 rfl zI ?_;refine OD.q 4 rfl<|.quiet (.g rfl rfl) rfl (fun _=>.nilCheck rfl)<|.quiet (.g rfl rfl) rfl (fun _=>.fieldAddr fld254x0 rfl)<|.quiet (.g rfl rfl) rfl (fun _=>.loadAt flat31 rfl hat rfl) ?_;refine .quiet (.g rfl rfl) rfl (fun _=>.len rfl underlying31 rfl)<|OD.q 1 rfl<|.quiet (.g rfl rfl) rfl (fun _=>.nilCheck rfl)<|.quiet (.g rfl rfl) rfl (fun _=>.fieldAddr fld254x1 rfl)<|.quiet (.g rfl rfl) rfl (fun _=>.loadAt flat3 rfl (hat.drop 1) rfl) ?_;refine .quiet (.g rfl rfl) rfl (fun _=>.sub rfl rfl (IntWalk.i64_in _ zC))<|.quiet (.g rfl rfl) rfl (fun _=>.gtr rfl rfl)<|OD.sF 25 rfl zI ?_;refine OD.q 1 rfl<|ODx.nil<|S.condF rfl<|S.skip<|S.seq<|S.region rfl<|O.q 1 rfl<|O.nil<|th ?_;refine S.ret results233 rfl fun w hw=>hR _ _ w ?_ hw;rw [e];exact ⟨rfl,rfl⟩
theorem drop_get {xs:List UInt8} {p:Nat} (h:p<xs.length):xs.drop p=xs[p]::xs.drop (p+1):=List.drop_eq_getElem_cons h
theorem refByte_c {r:Fr} {b p:Nat} {v:Value} {xs:List UInt8} {bad:Bool} (ha:Arr Rp.u8 r v xs) (hp:p≤xs.length):Con prog 234 #[.pointer (some ⟨b,0,none⟩)] r [obj b 254 [v,.int .i64 (p:Int),.bool bad]]
  (Ret fun z η=>∃ p',p' ≤xs.length∧xs.drop p' =(rByte (!bad) (xs.drop p)).2.1∧z=byteV (rByte (!bad) (xs.drop p)).1∧η=[obj b 254 [v,.int .i64 (p' :Int),.bool (bad ||(rByte (!bad) (xs.drop p)).2.2)]]):=by
 refine Con.of (n:=24) _ rfl func234 rfl rfl rfl fun g hg R hR=>?_;have hbd:=ha.bound;obtain ⟨a1,c1,rfl⟩:=ha.shape
 by_cases hk:bad=false∧p<xs.length
 ·obtain ⟨rfl,hk⟩:=hk
  have e:lok false 1 p xs.length=true:=by simp [lok];omega
  have ha' :=ha.mono hg;refine S.seq<|S.region rfl<|O.q 1 rfl<|O.nil<|S.seq<|S.seq<|S.region rfl<|O.q 1 rfl<|O.callS (.p rfl) rfl zD rfl rfl zB ((refLeft_c 1 ha hp).sub hg) ?_;rintro _ _ ⟨rfl,rfl⟩
  try simp only [zx1,zx2,zx3]
  refine O.sT 4 rfl (by exact e) ?_;refine O.op (.p rfl) (.not rfl)<|O.nil<|S.condF rfl<|S.skip<|S.seq<|S.region rfl<|O.q 1 rfl<|O.op (.p rfl) (.nilCheck rfl)<|O.op (.p rfl) (.fieldObj fld254x1 rfl)<|O.op (.p rfl) (.lo flat3) ?_;refine O.op (.p rfl) (.add rfl rfl (IntWalk.i64_in _ zC))<|O.op (.p rfl) (.nilCheck rfl)<|O.op (.p rfl) (.fieldObj fld254x1 rfl)<|O.opU rfl (.store1 flat3 rfl rfl zO zB zK) ?_;refine O.nil (S.seq ?_);rw [e];refine S.frzT (B:=obj b 254 [.slice a1 xs.length c1,.int .i64 ((p:Int)+1),.bool (!true)]) zB fun g2 hs2 ⟨m,hm,hsm⟩ th=>?_;have hat:=(obj_at hm).mono hsm;replace ha' :=ha'.mono hs2;refine S.regionD (L:=[0,1,2,3,4,5,6,7,8,9,10,11]) F.mixed zD ?_;refine OD.q 1 rfl<|.quiet (.p rfl) rfl (fun _=>.nilCheck rfl)<|.quiet (.p rfl) rfl (fun _=>.fieldAddr fld254x0 rfl)<|.quiet (.p rfl) rfl (fun _=>.loadAt flat31 rfl hat rfl) ?_;refine OD.q 1 rfl<|.quiet (.p rfl) rfl (fun _=>.nilCheck rfl)<|.quiet (.p rfl) rfl (fun _=>.fieldAddr fld254x1 rfl)<|.quiet (.p rfl) rfl (fun _=>.loadAt flat3 rfl (hat.drop 1) rfl) ?_;refine .quiet (.p rfl) rfl (fun _=>.sub rfl rfl (IntWalk.i64_in _ zC))<|OD.ia (.p rfl) underlying31 size5 rfl rfl (show _=(((p):Nat):Int) by omega) (by first|assumption|exact Arr.mono hg zE|exact Arr.left zE|exact Arr.left (Arr.mono hg zE)) (h:=fun p22 cs22 hp22 hr22=>?_)
  cases hr22
  refine .quiet (.p rfl) rfl (fun _=>.loadAt flat5 rfl hp22 rfl) ?_;refine OD.q 1 rfl<|ODx.nil<|th ?_;refine S.ret results234 rfl fun w hw=>hR _ _ w ?_ hw;rw [drop_get hk];exact ⟨p+1,by omega,rfl,rfl,rfl⟩
 ·have e:lok bad 1 p xs.length=false:=by cases bad<;>simp [lok] at hk ⊢;omega
  have hm:rByte (!bad) (xs.drop p)=(0,xs.drop p,!bad):=by
   cases bad with
   |true=>rfl
   |false=>rw [List.drop_eq_nil_of_le (by simp at hk;exact hk)];rfl
  refine S.seq<|S.region rfl<|O.q 1 rfl<|O.nil<|S.seq<|S.seq<|S.region rfl<|O.q 1 rfl<|O.callS (.p rfl) rfl zD rfl rfl zB ((refLeft_c 1 ha hp).sub hg) ?_;rintro _ _ ⟨rfl,rfl⟩
  try simp only [zx1,zx2,zx3]
  refine O.sF 4 rfl (by exact e) ?_;refine O.op (.p rfl) (.not rfl)<|O.nil<|S.condT rfl<|S.seq<|S.region rfl<|O.q 1 rfl<|O.nil<|S.ret results234 rfl fun w hw=>hR _ _ w ?_ hw;rw [hm];exact ⟨p,hp,rfl,rfl,by rw [e];simp⟩
theorem refNumber2_c {r:Fr} {b p:Nat} {v:Value} {xs:List UInt8} {bad:Bool} (ha:Arr Rp.u8 r v xs) (hp:p≤xs.length) (hl:xs.length≤1000000000):Con prog 199 #[.pointer (some ⟨b,0,none⟩)] r [obj b 254 [v,.int .i64 (p:Int),.bool bad]]
  (Ret fun z η=>∃ p',p' ≤xs.length∧xs.drop p' =(rNum (!bad) (xs.drop p)).2.1∧z=.int .i64 (rNum (!bad) (xs.drop p)).1∧η=[obj b 254 [v,.int .i64 (p' :Int),.bool (bad ||(rNum (!bad) (xs.drop p)).2.2)]]):=by
 refine Con.of (n:=38) _ rfl func199 rfl rfl rfl fun g hg R hR=>?_;obtain ⟨a1,c1,rfl⟩:=ha.shape
 by_cases hk:bad=false∧p+8≤xs.length
 ·obtain ⟨rfl,hk⟩:=hk
  have e:lok false 8 p xs.length=true:=by simp [lok];omega
  have hm0:rNum true (xs.drop p)=(ofBe (xs.drop p),xs.drop (p+8),false):=by
   unfold rNum;rw [if_pos rfl,if_pos zI,List.drop_drop]
  have ha' :=ha.mono hg;refine S.seq<|S.region rfl<|O.q 1 rfl<|O.nil<|S.seq<|S.seq<|S.region rfl<|O.q 1 rfl<|O.callS (.p rfl) rfl zD rfl rfl zB ((refLeft_c 8 ha hp).sub hg) ?_;rintro _ _ ⟨rfl,rfl⟩
  try simp only [zx1,zx2,zx3]
  refine O.sT 6 rfl (by exact e) ?_;refine O.op (.p rfl) (.not rfl)<|O.nil<|S.condF rfl<|S.skip<|S.seq<|S.region rfl<|O.q 1 rfl<|O.nil<|S.seq<|S.seq<|S.region rfl<|O.q 1 rfl<|O.nil (S.block ?_);rw [e];refine S.frzT (B:=obj b 254 [.slice a1 xs.length c1,.int .i64 (p:Int),.bool (!true)]) zB fun g2 hs2 ⟨m,hm,hsm⟩ th=>?_;have hat:=(obj_at hm).mono hsm;replace ha' :=ha'.mono hs2;refine S.loopK (ι:=Nat) (fun i=>i≤8) (fun i=>[(4,.int .i64 (i:Int)),(3,.int .u64 (beVal ((xs.drop p).take i):Nat))]) [(0,_)] (fun i=>[]) (fun i=>8 - i) (0) zG (.cons rfl (.cons rfl (.nil))) (.cons rfl (.nil)) rfl fun i hx ih=>?_;have hm1:=meltRefl (g:=g);refine S.seq<|S.seq<|S.region rfl<|O.q 1 rfl<|O.op (.p rfl) (.lss rfl rfl)<|O.nil ?_
  first|refine S.condD rfl (fun h9=>?_) (fun h9=>?_)|refine S.condB rfl (fun h9=>?_) (fun h9=>?_)
  ·have hi:i<8:=by omega
   have hlen:i<(xs.drop p).length:=by simp;omega
   refine S.skip<|S.seq<|S.block<|S.regionD (L:=[0,1,2,3,4,5,6,7,8,9,10,11,12,13,14,15,16]) F.mixed zD<|OD.q 1 rfl<|.quiet (.p rfl) rfl (fun _=>.shl rfl rfl zC)<|OD.q 1 rfl<|.quiet (.p rfl) rfl (fun _=>.nilCheck rfl)<|.quiet (.p rfl) rfl (fun _=>.fieldAddr fld254x0 rfl)<|.quiet (.p rfl) rfl (fun _=>.loadAt flat31 rfl hat rfl) ?_;refine OD.q 1 rfl<|.quiet (.p rfl) rfl (fun _=>.nilCheck rfl)<|.quiet (.p rfl) rfl (fun _=>.fieldAddr fld254x1 rfl)<|.quiet (.p rfl) rfl (fun _=>.loadAt flat3 rfl (hat.drop 1) rfl) ?_;refine OD.q 1 rfl<|.quiet (.p rfl) rfl (fun _=>.add rfl rfl (IntWalk.i64_in _ zC))<|OD.ia (.p rfl) underlying31 size5 rfl rfl (show _=(((p+i):Nat):Int) by omega) (by first|assumption|exact Arr.mono hg zE|exact Arr.left zE|exact Arr.left (Arr.mono hg zE)) (h:=fun p24 cs24 hp24 hr24=>?_)
   cases hr24
   refine .quiet (.p rfl) rfl (fun _=>.loadAt flat5 rfl hp24 rfl) ?_;refine .quiet (.p rfl) rfl (fun _=>.cvt underlying5 underlying195 rfl)<|.quiet (.p rfl) rfl (fun _=>.or rfl rfl)<|OD.q 1 rfl<|ODx.nil<|S.inBlock<|S.region rfl<|O.q 1 rfl<|O.op (.p rfl) (.add rfl rfl (IntWalk.i64_in _ zC))<|O.q 1 rfl<|O.nil ?_;rw [show xs[p+i]=(xs.drop p)[i] from by simp,or_byte _ _ (beVal_lt7 (xs.drop p) i hi),← beVal_take (xs.drop p) i hlen];exact S.wk (ih (i+1) zC zC)
  ·have hi:i=8:=by omega
   subst hi;refine S.exit rfl<|S.seq<|th ?_;refine S.region rfl<|O.q 2 rfl<|O.op (.p rfl) (.nilCheck rfl)<|O.op (.p rfl) (.fieldObj fld254x1 rfl)<|O.op (.p rfl) (.lo flat3) ?_;refine O.op (.p rfl) (.add rfl rfl (IntWalk.i64_in _ zC))<|O.op (.p rfl) (.nilCheck rfl)<|O.op (.p rfl) (.fieldObj fld254x1 rfl)<|O.opU rfl (.store1 flat3 rfl rfl zO zB zK) ?_;refine O.nil<|S.seq<|S.region rfl<|O.q 1 rfl<|O.op (.p rfl) (.cvt underlying195 underlying3 rfl)<|O.q 1 rfl<|O.nil<|S.ret results199 rfl fun w hw=>hR _ _ w ?_ hw;rw [Bool.not_false,hm0];exact ⟨p+8,by omega,rfl,by rw [wrap_i64_eq _ (Nat.lt_of_lt_of_le (beVal_lt (xs.drop p) 8) zF)];rfl,rfl⟩
 ·have e:lok bad 8 p xs.length=false:=by cases bad<;>simp [lok] at hk ⊢;omega
  have hm:rNum (!bad) (xs.drop p)=(0,xs.drop p,!bad):=by
   cases bad with
   |true=>rfl
   |false=>unfold rNum;rw [Bool.not_false,if_pos rfl,if_neg (by simp at hk ⊢;omega)]
  refine S.seq<|S.region rfl<|O.q 1 rfl<|O.nil<|S.seq<|S.seq<|S.region rfl<|O.q 1 rfl<|O.callS (.p rfl) rfl zD rfl rfl zB ((refLeft_c 8 ha hp).sub hg) ?_;rintro _ _ ⟨rfl,rfl⟩
  try simp only [zx1,zx2,zx3]
  refine O.sF 6 rfl (by exact e) ?_;refine O.op (.p rfl) (.not rfl)<|O.nil<|S.condT rfl<|S.seq<|S.region rfl<|O.q 1 rfl<|O.nil<|S.ret results199 rfl fun w hw=>hR _ _ w ?_ hw;rw [hm];exact ⟨p,hp,rfl,rfl,by rw [e];simp⟩
theorem refCount_c {r:Fr} {b p:Nat} {v:Value} {xs:List UInt8} {bad:Bool} (most:Int) (ha:Arr Rp.u8 r v xs) (hp:p≤xs.length) (hl:xs.length≤1000000000):Con prog 132 #[.pointer (some ⟨b,0,none⟩),.int .i64 most] r [obj b 254 [v,.int .i64 (p:Int),.bool bad]]
  (Ret fun z η=>∃ p',p' ≤xs.length∧xs.drop p' =(rCount most (!bad) (xs.drop p)).2.1∧z=.int .i64 (rCount most (!bad) (xs.drop p)).1∧η=[obj b 254 [v,.int .i64 (p' :Int),.bool (bad ||(rCount most (!bad) (xs.drop p)).2.2)]]):=by
 refine Con.of (n:=25) _ rfl func132 rfl rfl rfl fun g hg R hR=>?_;obtain ⟨z,rest,f,hE⟩:∃ z rest f,rNum (!bad) (xs.drop p)=(z,rest,f):=⟨_,_,_,rfl⟩;have hC:rCount most (!bad) (xs.drop p)=if bad ||f then (z,rest,f) else if 0≤z∧z≤most then (z,rest,false) else (0,rest,true):=by
  unfold rCount rNum at *
  cases bad with
  |true=>simp at hE ⊢;exact hE
  |false =>
   simp only [Bool.not_false,if_true] at hE ⊢
   split at hE<;>rename_i h8
   ·cases hE;rw [if_pos h8];rfl
   ·cases hE;rw [if_neg h8];rfl
 have con:=refNumber2_c (b:=b) (bad:=bad) ha hp hl;rw [hE] at con
 by_cases hb:(bad ||f)=true
 ·have hz:z=0:=by
   unfold rNum at hE;cases bad with
   |true=>simp at hE;exact hE.1.symm
   |false =>
    simp only [Bool.not_false,if_true] at hE;split at hE
    ·cases hE;simp at hb
    ·cases hE;rfl
  subst hz;refine S.seq<|S.region rfl<|O.q 1 rfl<|O.nil<|S.seq<|S.region rfl<|O.q 1 rfl<|O.callS (.p rfl) rfl zD rfl rfl zB (con.sub hg) ?_;rintro v7 _ ⟨p',hp',hd',rfl,rfl⟩
  try simp only [zx1,zx2,zx3]
  refine O.q 1 rfl<|O.nil<|S.seq<|S.seq<|S.region rfl<|O.q 1 rfl<|O.op (.p rfl) (.nilCheck rfl)<|O.op (.p rfl) (.fieldObj fld254x2 rfl)<|O.op (.p rfl) (.lo flat4) ?_;refine O.sT 11 rfl (by exact hb) ?_;refine O.q 9 rfl<|O.nil<|S.condT rfl<|S.seq<|S.region rfl<|O.q 1 rfl<|O.op (.p rfl) (.nilCheck rfl)<|O.op (.p rfl) (.fieldObj fld254x2 rfl)<|O.opU rfl (.store1 flat4 rfl rfl zO zB zK) ?_;refine O.nil<|S.seq<|S.region rfl<|O.q 1 rfl<|O.nil<|S.ret results132 rfl fun w hw=>hR _ _ w ?_ hw;rw [hC,if_pos hb];exact ⟨p',hp',hd',rfl,by rw [hb];rfl⟩
 ·have hb' :(bad ||f)=false:=by simpa using hb
  by_cases hz:0≤z∧z≤most
  ·
   refine S.seq<|S.region rfl<|O.q 1 rfl<|O.nil<|S.seq<|S.region rfl<|O.q 1 rfl<|O.callS (.p rfl) rfl zD rfl rfl zB (con.sub hg) ?_;rintro v7 _ ⟨p',hp',hd',rfl,rfl⟩
   try simp only [zx1,zx2,zx3]
   refine O.q 1 rfl<|O.nil<|S.seq<|S.seq<|S.region rfl<|O.q 1 rfl<|O.op (.p rfl) (.nilCheck rfl)<|O.op (.p rfl) (.fieldObj fld254x2 rfl)<|O.op (.p rfl) (.lo flat4) ?_;refine O.sF 11 rfl (by exact hb') ?_;refine O.q 2 rfl<|O.op (.g rfl rfl) (.lss rfl rfl)<|O.sF 14 rfl zI ?_;refine O.q 4 rfl<|O.op (.g rfl rfl) (.gtr rfl rfl)<|O.sF 19 rfl zI ?_;refine O.q 1 rfl<|O.nil<|S.condF rfl<|S.skip<|S.seq<|S.region rfl<|O.q 2 rfl<|O.nil<|S.ret results132 rfl fun w hw=>hR _ _ w ?_ hw;rw [hC,if_neg hb,if_pos hz];exact ⟨p',hp',hd',rfl,by rw [hb'];cases bad<;>simp at hb' ⊢⟩
  ·by_cases hz0:z<0
   ·
    refine S.seq<|S.region rfl<|O.q 1 rfl<|O.nil<|S.seq<|S.region rfl<|O.q 1 rfl<|O.callS (.p rfl) rfl zD rfl rfl zB (con.sub hg) ?_;rintro v7 _ ⟨p',hp',hd',rfl,rfl⟩
    try simp only [zx1,zx2,zx3]
    refine O.q 1 rfl<|O.nil<|S.seq<|S.seq<|S.region rfl<|O.q 1 rfl<|O.op (.p rfl) (.nilCheck rfl)<|O.op (.p rfl) (.fieldObj fld254x2 rfl)<|O.op (.p rfl) (.lo flat4) ?_;refine O.sF 11 rfl (by exact hb') ?_;refine O.q 2 rfl<|O.op (.g rfl rfl) (.lss rfl rfl)<|O.sT 14 rfl zI ?_;refine O.q 6 rfl<|O.nil<|S.condT rfl<|S.seq<|S.region rfl<|O.q 1 rfl<|O.op (.p rfl) (.nilCheck rfl)<|O.op (.p rfl) (.fieldObj fld254x2 rfl)<|O.opU rfl (.store1 flat4 rfl rfl zO zB zK) ?_;refine O.nil<|S.seq<|S.region rfl<|O.q 1 rfl<|O.nil<|S.ret results132 rfl fun w hw=>hR _ _ w ?_ hw;rw [hC,if_neg hb,if_neg hz];exact ⟨p',hp',hd',rfl,by rw [Bool.or_true];rfl⟩
   ·
    refine S.seq<|S.region rfl<|O.q 1 rfl<|O.nil<|S.seq<|S.region rfl<|O.q 1 rfl<|O.callS (.p rfl) rfl zD rfl rfl zB (con.sub hg) ?_;rintro v7 _ ⟨p',hp',hd',rfl,rfl⟩
    try simp only [zx1,zx2,zx3]
    refine O.q 1 rfl<|O.nil<|S.seq<|S.seq<|S.region rfl<|O.q 1 rfl<|O.op (.p rfl) (.nilCheck rfl)<|O.op (.p rfl) (.fieldObj fld254x2 rfl)<|O.op (.p rfl) (.lo flat4) ?_;refine O.sF 11 rfl (by exact hb') ?_;refine O.q 2 rfl<|O.op (.g rfl rfl) (.lss rfl rfl)<|O.sF 14 rfl zI ?_;refine O.q 4 rfl<|O.op (.g rfl rfl) (.gtr rfl rfl)<|O.sT 19 rfl zI ?_;refine O.q 1 rfl<|O.nil<|S.condT rfl<|S.seq<|S.region rfl<|O.q 1 rfl<|O.op (.p rfl) (.nilCheck rfl)<|O.op (.p rfl) (.fieldObj fld254x2 rfl)<|O.opU rfl (.store1 flat4 rfl rfl zO zB zK) ?_;refine O.nil<|S.seq<|S.region rfl<|O.q 1 rfl<|O.nil<|S.ret results132 rfl fun w hw=>hR _ _ w ?_ hw;rw [hC,if_neg hb,if_neg hz];exact ⟨p',hp',hd',rfl,by rw [Bool.or_true];rfl⟩
theorem refBytes2_c {r:Fr} {b p:Nat} {v:Value} {xs:List UInt8} {bad:Bool} (most:Int) (ha:Arr Rp.u8 r v xs) (hp:p≤xs.length) (hl:xs.length≤1000000000):Con prog 134 #[.pointer (some ⟨b,0,none⟩),.int .i64 most] r [obj b 254 [v,.int .i64 (p:Int),.bool bad]]
  (Ret fun z η=>∃ a c p',p' ≤xs.length∧xs.drop p' =(rBytes most (!bad) (xs.drop p)).2.1∧z=.slice a (rBytes most (!bad) (xs.drop p)).1.length c ∧
   η=[obj b 254 [v,.int .i64 (p' :Int),.bool (bad ||(rBytes most (!bad) (xs.drop p)).2.2)],OwnP Rp.u8 5 z (rBytes most (!bad) (xs.drop p)).1]):=by
 refine Con.of (n:=39) _ rfl func134 rfl rfl rfl fun g hg R hR=>?_;obtain ⟨a1,c1,rfl⟩:=ha.shape;obtain ⟨z,rest,f,hE⟩:∃ z rest f,rCount most (!bad) (xs.drop p)=(z,rest,f):=⟨_,_,_,rfl⟩;have hB:rBytes most (!bad) (xs.drop p)=if bad ||f then ([],rest,f) else if z.toNat≤rest.length then (rest.take z.toNat,rest.drop z.toNat,false) else ([],rest,true):=by
  unfold rBytes rCount at *
  cases bad with
  |true=>simp at hE ⊢;exact ⟨hE.2.1,hE.2.2⟩
  |false =>
   simp only [Bool.not_false,if_true,Bool.false_or] at hE ⊢
   split at hE<;>rename_i h8
   ·rw [if_pos h8]
    split at hE<;>rename_i h9
    ·cases hE;rw [if_pos h9];simp
    ·cases hE;rw [if_neg h9];rfl
   ·cases hE;rw [if_neg h8];rfl
 have hz0:0≤z:=by
  unfold rCount at hE;cases bad with
  |true=>simp at hE;omega
  |false =>
   simp only [Bool.not_false,if_true] at hE
   split at hE
   ·split at hE<;>rename_i h9
    ·cases hE;exact h9.1
    ·cases hE;omega
   ·cases hE;omega
 have con:=refCount_c (b:=b) (bad:=bad) most ha hp hl;rw [hE] at con
 by_cases hb:(bad ||f)=true
 ·
  refine S.seq<|S.region rfl<|O.q 1 rfl<|O.nil<|S.seq<|S.region rfl<|O.q 2 rfl<|O.callS (.p rfl) rfl zD rfl rfl zB (con.sub hg) ?_;rintro v8 _ ⟨p',hp',hd',rfl,rfl⟩
  try simp only [zx1,zx2,zx3]
  refine O.q 1 rfl<|O.nil<|S.seq<|S.seq<|S.region rfl<|O.q 2 rfl<|O.callS (.p rfl) rfl zD rfl rfl zB ((refLeft_c z ha hp').sub hg) ?_;rintro _ _ ⟨rfl,rfl⟩
  try simp only [zx1,zx2,zx3]
  refine O.sF 11 rfl (by simp [lok,hb]) ?_;refine O.op (.p rfl) (.not rfl)<|O.nil<|S.condT rfl<|S.seq<|S.region rfl<|O.q 1 rfl<|O.nil<|S.addNil (T:=Rp.u8) (e:=5) ?_;refine S.ret results134 rfl fun w hw=>Holds.end_ hR hw ?_;rw [hB,if_pos hb];exact ⟨_,⟨none,0,p',hp',hd',rfl,rfl⟩,by rw [show lok (bad ||f) z p' xs.length=false from by simp [lok,hb],hb];exact Picks.cons (.there .here) (Picks.cons .here Picks.nil)⟩
 ·have hb' :(bad ||f)=false:=by simpa using hb
  rw [hb'] at con
  by_cases hz:z.toNat≤rest.length
  ·have ha' :=ha.mono hg
   refine S.seq<|S.region rfl<|O.q 1 rfl<|O.nil<|S.seq<|S.region rfl<|O.q 2 rfl<|O.callS (.p rfl) rfl zD rfl rfl zB (con.sub hg) ?_;rintro v8 _ ⟨p',hp',hd',rfl,rfl⟩
   try simp only [zx1,zx2,zx3]
   refine O.q 1 rfl<|O.nil<|S.seq<|S.seq<|S.region rfl<|O.q 2 rfl ?_;have hrl:rest.length=xs.length - p' :=by have h9:=congrArg List.length hd';simpa using h9.symm
   have e:lok false z p' xs.length=true:=by simp [lok];omega
   refine O.callS (.p rfl) rfl zD rfl rfl zB ((refLeft_c z ha hp').sub hg) ?_;rintro _ _ ⟨rfl,rfl⟩
   try simp only [zx1,zx2,zx3]
   refine O.sT 11 rfl (by exact e) ?_;refine O.op (.p rfl) (.not rfl)<|O.nil<|S.condF rfl<|S.skip<|S.seq<|S.region rfl<|O.q 2 rfl<|O.op (.p rfl) (.nilCheck rfl)<|O.op (.p rfl) (.fieldObj fld254x1 rfl)<|O.op (.p rfl) (.lo flat3) ?_;refine O.q 1 rfl<|O.op (.p rfl) (.add rfl rfl (IntWalk.i64_in _ zC))<|O.op (.p rfl) (.nilCheck rfl)<|O.op (.p rfl) (.fieldObj fld254x1 rfl)<|O.opU rfl (.store1 flat3 rfl rfl zO zB zK) ?_;refine O.nil (S.seq ?_);rw [e];refine S.frzT (B:=obj b 254 [.slice a1 xs.length c1,.int .i64 ((p' :Int)+z),.bool (!true)]) zB fun g2 hs2 ⟨m,hm,hsm⟩ th=>?_;have hat:=(obj_at hm).mono hsm;replace ha' :=ha'.mono hs2;refine S.regionD (L:=[1,2,3,4,5,6,7,8,9,10,11,12,13,14,15,0,16,17]) F.mixed zD ?_;refine OD.q 1 rfl<|.quiet (.p rfl) rfl (fun _=>.nilCheck rfl)<|.quiet (.p rfl) rfl (fun _=>.fieldAddr fld254x0 rfl)<|.quiet (.p rfl) rfl (fun _=>.loadAt flat31 rfl hat rfl) ?_;refine OD.q 1 rfl<|.quiet (.p rfl) rfl (fun _=>.nilCheck rfl)<|.quiet (.p rfl) rfl (fun _=>.fieldAddr fld254x1 rfl)<|.quiet (.p rfl) rfl (fun _=>.loadAt flat3 rfl (hat.drop 1) rfl) ?_;refine OD.q 1 rfl<|.quiet (.p rfl) rfl (fun _=>.sub rfl rfl (IntWalk.i64_in _ zC))<|OD.q 1 rfl<|.quiet (.p rfl) rfl (fun _=>.nilCheck rfl)<|.quiet (.p rfl) rfl (fun _=>.fieldAddr fld254x1 rfl)<|.quiet (.p rfl) rfl (fun _=>.loadAt flat3 rfl (hat.drop 1) rfl) ?_
   refine OD.sliceMid (a:=p') (b:=p' +z.toNat) (.p rfl) underlying31 size5 rfl rfl rfl zE zL zL zL zL (fun u37 ha37=>?_);obtain ⟨a37,c37,rfl⟩:=ha37.shape;refine OD.litP (T:=Rp.u8) (ys:=[]) (.p rfl) zD underlying31 elem5 zF rfl rfl trivial zF (fun a22 c22=>?_);refine OD.appendP (.p rfl) zD (T:=Rp.u8) pure_u8 underlying31 elem5 zF rfl rfl zB (by first|assumption|exact Arr.mono hg zE|exact Arr.left zE|exact Arr.left (Arr.mono hg zE)) zL zL (fun a38 c38=>?_);refine OD.q 1 rfl<|ODx.nil<|th ?_;have e2:(p' :Int)+z=((p' +z.toNat:Nat):Int):=by omega
   have h9:xs.drop p' =rest:=hd';have e1:(xs.take (p' +z.toNat)).drop p' =rest.take z.toNat:=by rw [List.drop_take,h9];congr 1;omega
   rw [e2];simp only [List.length_nil,Nat.zero_add,List.nil_append,e1];refine S.ret results134 rfl fun w hw=>Holds.end_ hR hw ?_;rw [hB,if_neg hb,if_pos hz];exact ⟨_,⟨a38,c38,p' +z.toNat,by omega,by rw [← List.drop_drop,h9],rfl,rfl⟩,by rw [Bool.or_false];cases bad<;>first|(simp at hb';done)|exact Picks.cons .here (Picks.cons .here Picks.nil)⟩
  ·
   refine S.seq<|S.region rfl<|O.q 1 rfl<|O.nil<|S.seq<|S.region rfl<|O.q 2 rfl<|O.callS (.p rfl) rfl zD rfl rfl zB (con.sub hg) ?_;rintro v8 _ ⟨p',hp',hd',rfl,rfl⟩
   try simp only [zx1,zx2,zx3]
   refine O.q 1 rfl<|O.nil<|S.seq<|S.seq<|S.region rfl<|O.q 2 rfl ?_;have hrl:rest.length=xs.length - p' :=by have h9:=congrArg List.length hd';simpa using h9.symm
   have e:lok false z p' xs.length=false:=by simp [lok];omega
   refine O.callS (.p rfl) rfl zD rfl rfl zB ((refLeft_c z ha hp').sub hg) ?_;rintro _ _ ⟨rfl,rfl⟩
   try simp only [zx1,zx2,zx3]
   refine O.sF 11 rfl (by exact e) ?_;refine O.op (.p rfl) (.not rfl)<|O.nil<|S.condT rfl<|S.seq<|S.region rfl<|O.q 1 rfl<|O.nil<|S.addNil (T:=Rp.u8) (e:=5) ?_;refine S.ret results134 rfl fun w hw=>Holds.end_ hR hw ?_;rw [hB,if_neg hb,if_neg hz];exact ⟨_,⟨none,0,p',hp',hd',rfl,rfl⟩,by rw [e];cases bad<;>exact Picks.cons (.there .here) (Picks.cons .here Picks.nil)⟩
theorem rfNew_c {r:Fr} {va:Value} {xs:List UInt8} (ha:Arr Rp.u8 r va xs) (hl:xs.length≤1000000000):Con prog 131 #[va] r [] (Ret fun v η=>∃ b,v=.pointer (some ⟨b,0,none⟩)∧η=[RfP 254 b ⟨true,xs⟩]) :=
 (refNewReader_c ha zC).post fun e η' h w g hw=>by
  cases e with
  |returned u =>
   obtain ⟨b,a,c,rfl,rfl⟩:=h;exact ⟨_,⟨b,rfl,rfl⟩,hw.imp fun _ x=>rf_sat hl x⟩
  |panicked _=>exact h.elim
  |outgrown=>exact h.elim
theorem rfNumber_c {r:Fr} {b:Nat} {s:RS}:Con prog 199 #[.pointer (some ⟨b,0,none⟩)] r [RfP 254 b s] (Ret fun u η=>u=.int .i64 s.num.1∧η=[RfP 254 b s.num.2]) :=
 (Con.rf (Q:=fun u s' ζ=>u=.int .i64 s.num.1∧s' =s.num.2∧ζ=[]) fun m v xs p bad h1 h2 h3 h4 h5=>(refNumber2_c h2 h3 h4).mono (Ret.imp fun u η h=>by
  obtain ⟨p',h6,h7,rfl,rfl⟩:=h;simp only [h1,h5] at h7 ⊢;exact ⟨p',_,s.num.2,_,⟨rfl,rfl,rfl⟩,⟨good_or' h1,h6,h7⟩,rfl⟩)).mono (Ret.imp fun u η h=>by obtain ⟨s',ζ,⟨rfl,rfl,rfl⟩,rfl⟩:=h;exact ⟨rfl,rfl⟩)
theorem rfByte_c {r:Fr} {b:Nat} {s:RS}:Con prog 234 #[.pointer (some ⟨b,0,none⟩)] r [RfP 254 b s] (Ret fun u η=>u=byteV s.byte.1∧η=[RfP 254 b s.byte.2]) :=
 (Con.rf (Q:=fun u s' ζ=>u=byteV s.byte.1∧s' =s.byte.2∧ζ=[]) fun m v xs p bad h1 h2 h3 h4 h5=>(refByte_c h2 h3).mono (Ret.imp fun u η h=>by
  obtain ⟨p',h6,h7,rfl,rfl⟩:=h;simp only [h1,h5] at h7 ⊢;exact ⟨p',_,s.byte.2,_,⟨rfl,rfl,rfl⟩,⟨good_or' h1,h6,h7⟩,rfl⟩)).mono (Ret.imp fun u η h=>by obtain ⟨s',ζ,⟨rfl,rfl,rfl⟩,rfl⟩:=h;exact ⟨rfl,rfl⟩)
theorem rfCount_c {r:Fr} {b:Nat} {s:RS} (most:Int):Con prog 132 #[.pointer (some ⟨b,0,none⟩),.int .i64 most] r [RfP 254 b s] (Ret fun u η=>u=.int .i64 (s.count most).1∧η=[RfP 254 b (s.count most).2]) :=
 (Con.rf (Q:=fun u s' ζ=>u=.int .i64 (s.count most).1∧s' =(s.count most).2∧ζ=[]) fun m v xs p bad h1 h2 h3 h4 h5=>(refCount_c most h2 h3 h4).mono (Ret.imp fun u η h=>by
  obtain ⟨p',h6,h7,rfl,rfl⟩:=h;simp only [h1,h5] at h7 ⊢;exact ⟨p',_,(s.count most).2,_,⟨rfl,rfl,rfl⟩,⟨good_or' h1,h6,h7⟩,rfl⟩)).mono (Ret.imp fun u η h=>by obtain ⟨s',ζ,⟨rfl,rfl,rfl⟩,rfl⟩:=h;exact ⟨rfl,rfl⟩)
theorem rfBytes_c {r:Fr} {b:Nat} {s:RS} (most:Int):Con prog 134 #[.pointer (some ⟨b,0,none⟩),.int .i64 most] r [RfP 254 b s] (Ret fun u η=>∃ a c,u=.slice a (s.bytes most).1.length c∧η=[RfP 254 b (s.bytes most).2,OwnP Rp.u8 5 (.slice a (s.bytes most).1.length c) (s.bytes most).1]) :=
 (Con.rf (Q:=fun u s' ζ=>∃ a c,u=.slice a (s.bytes most).1.length c∧s' =(s.bytes most).2∧ζ=[OwnP Rp.u8 5 (.slice a (s.bytes most).1.length c) (s.bytes most).1]) fun m v xs p bad h1 h2 h3 h4 h5=>(refBytes2_c most h2 h3 h4).mono (Ret.imp fun u η h=>by
  obtain ⟨a,c,p',h6,h7,rfl,rfl⟩:=h;simp only [h1,h5] at h7 ⊢;exact ⟨p',_,(s.bytes most).2,_,⟨a,c,rfl,rfl,rfl⟩,⟨good_or' h1,h6,h7⟩,rfl⟩)).mono (Ret.imp fun u η h=>by obtain ⟨s',ζ,⟨a,c,rfl,rfl,rfl⟩,rfl⟩:=h;exact ⟨a,c,rfl,rfl⟩)
theorem rfGood_c {r:Fr} {b:Nat} {s:RS}:Con prog 133 #[.pointer (some ⟨b,0,none⟩)] r [RfP 254 b s] (Ret fun u η=>u=.bool s.good∧η=[RfP 254 b s]) :=
 (Con.rf (Q:=fun u s' ζ=>u=.bool s.good∧s' =s∧ζ=[]) fun m v xs p bad h1 h2 h3 h4 h5=>refGood_c.mono (Ret.imp fun u η h=>by
  obtain ⟨rfl,rfl⟩:=h;rw [h1];exact ⟨p,bad,s,[],⟨rfl,rfl,rfl⟩,⟨h1,h3,h5⟩,rfl⟩)).mono (Ret.imp fun u η h=>by obtain ⟨s',ζ,⟨rfl,rfl,rfl⟩,rfl⟩:=h;exact ⟨rfl,rfl⟩)
theorem rfDone_c {r:Fr} {b:Nat} {s:RS}:Con prog 136 #[.pointer (some ⟨b,0,none⟩)] r [RfP 254 b s] (Ret fun u η=>u=.bool s.done∧η=[RfP 254 b s]) :=
 (Con.rf (Q:=fun u s' ζ=>u=.bool s.done∧s' =s∧ζ=[]) fun m v xs p bad h1 h2 h3 h4 h5=>(refDone_c h2).mono (Ret.imp fun u η h=>by
  obtain ⟨rfl,rfl⟩:=h;have e:(decide (p=xs.length))=decide (s.rest.length=0):=by rw [← h5,List.length_drop];exact decide_eq_decide.2 zC
  rw [h1,e];exact ⟨p,bad,s,[],⟨rfl,rfl,rfl⟩,⟨h1,h3,h5⟩,rfl⟩)).mono (Ret.imp fun u η h=>by obtain ⟨s',ζ,⟨rfl,rfl,rfl⟩,rfl⟩:=h;exact ⟨rfl,rfl⟩)
theorem r7dot_c {r:Fr} {a b:Int} (d:DotT) (h:d=(a,b,())):Con prog 286 #[.agg #[.int .i64 a,.int .i64 b]] r [] (Ret fun v η=>v=.bool (dotOk d)∧η=[]):=by
 subst h;refine Con.of (n:=21) _ rfl func286 rfl rfl rfl fun g hg R hR=>?_;refine S.seq<|S.region rfl<|O.opE (.p rfl) (.box (cs:=[_,_]) rfl rfl) ?_;rintro _ _ ⟨b1,rfl,rfl⟩;refine O.q 1 rfl<|O.nil<|S.seq<|S.region rfl<|O.op (.p rfl) (.fieldObj fld166x0 rfl)<|O.op (.p rfl) (.lo flat3) ?_;refine O.op (.p rfl) (.geq rfl rfl)<|O.q 1 rfl ?_
 first|refine O.caseD 6 rfl (fun h6=>?_) (fun h6=>?_)|refine O.caseB 6 rfl (fun h6=>?_) (fun h6=>?_)
 ·refine O.op (.g rfl rfl) (.fieldObj fld166x0 rfl)<|O.op (.g rfl rfl) (.lo flat3) ?_
  refine O.op (.g rfl rfl) (.leq rfl rfl)<|O.q 2 rfl ?_
  first|refine O.caseD 11 rfl (fun h11=>?_) (fun h11=>?_)|refine O.caseB 11 rfl (fun h11=>?_) (fun h11=>?_)
  ·refine O.op (.g rfl rfl) (.fieldObj fld166x1 rfl)<|O.op (.g rfl rfl) (.lo flat3) ?_
   refine O.op (.g rfl rfl) (.geq rfl rfl)<|O.q 2 rfl ?_
   first|refine O.caseD 16 rfl (fun h16=>?_) (fun h16=>?_)|refine O.caseB 16 rfl (fun h16=>?_) (fun h16=>?_)
   ·refine O.op (.g rfl rfl) (.fieldObj fld166x1 rfl)<|O.op (.g rfl rfl) (.lo flat3) ?_
    refine O.op (.g rfl rfl) (.leq rfl rfl)<|O.q 2 rfl<|O.nil<|S.ret results286 rfl fun w hw=>Holds.end_ hR hw ?_
    first|exact ⟨_,⟨congrArg _ (decide_eq_false zW).symm,rfl⟩,by repeat (first|exact zpa|exact zpn|(apply zpc;focus (repeat (first|exact zh|apply zt)))|apply zps)⟩|exact ⟨_,⟨congrArg _ (decide_eq_decide.2 zW),rfl⟩,by repeat (first|exact zpa|exact zpn|(apply zpc;focus (repeat (first|exact zh|apply zt)))|apply zps)⟩
   ·refine O.q 5 rfl<|O.nil<|S.ret results286 rfl fun w hw=>Holds.end_ hR hw ?_
    first|exact ⟨_,⟨congrArg _ (decide_eq_false zW).symm,rfl⟩,by repeat (first|exact zpa|exact zpn|(apply zpc;focus (repeat (first|exact zh|apply zt)))|apply zps)⟩|exact ⟨_,⟨congrArg _ (decide_eq_decide.2 zW),rfl⟩,by repeat (first|exact zpa|exact zpn|(apply zpc;focus (repeat (first|exact zh|apply zt)))|apply zps)⟩
  ·refine O.q 10 rfl<|O.nil<|S.ret results286 rfl fun w hw=>Holds.end_ hR hw ?_
   first|exact ⟨_,⟨congrArg _ (decide_eq_false zW).symm,rfl⟩,by repeat (first|exact zpa|exact zpn|(apply zpc;focus (repeat (first|exact zh|apply zt)))|apply zps)⟩|exact ⟨_,⟨congrArg _ (decide_eq_decide.2 zW),rfl⟩,by repeat (first|exact zpa|exact zpn|(apply zpc;focus (repeat (first|exact zh|apply zt)))|apply zps)⟩
 ·refine O.q 15 rfl<|O.nil<|S.ret results286 rfl fun w hw=>Holds.end_ hR hw ?_
  first|exact ⟨_,⟨congrArg _ (decide_eq_false zW).symm,rfl⟩,by repeat (first|exact zpa|exact zpn|(apply zpc;focus (repeat (first|exact zh|apply zt)))|apply zps)⟩|exact ⟨_,⟨congrArg _ (decide_eq_decide.2 zW),rfl⟩,by repeat (first|exact zpa|exact zpn|(apply zpc;focus (repeat (first|exact zh|apply zt)))|apply zps)⟩
theorem r7right_c {r:Fr} {va:Value} {v:List DotT} (ha:Arr DotRp r va v):Con prog 287 #[va] r [] (Ret fun u η=>u=.bool (vecOk v)∧η=[]):=by
 refine Con.of (n:=34) _ rfl func287 rfl rfl rfl fun g hg R hR=>?_;have ha:=ha.mono hg;have hbd:=ha.bound;obtain ⟨a1,c1,rfl⟩:=ha.shape;refine S.seq<|S.region rfl<|O.q 1 rfl<|O.nil<|S.seq<|S.seq<|S.region rfl<|O.q 1 rfl<|O.nil<|S.block<|S.loopK (ι:=Nat) (fun k=>k≤v.length∧vecOk (v.take k)=true) (fun k=>[(3,.int .i64 (k:Int))]) [(0,_)] (fun k=>[]) (fun k=>v.length - k) (0) zP (.cons rfl (.nil)) (.cons rfl (.nil)) rfl fun k hx ih=>?_;have hm1:=meltRefl (g:=g);obtain ⟨hx1,hx2⟩:=hx;refine S.seq<|S.seq<|S.region rfl<|O.q 2 rfl<|O.op (.p rfl) (.len rfl underlying72 rfl)<|O.op (.p rfl) (.lss rfl rfl)<|O.nil ?_
 first|refine S.condD rfl (fun h7=>?_) (fun h7=>?_)|refine S.condB rfl (fun h7=>?_) (fun h7=>?_)
 ·have hk:k<v.length:=by omega
  have hst:=vecOk_step hk hx2
  by_cases hd:dotOk v[k]=true
  ·by_cases h0:k=0
   ·
    refine S.skip<|S.seq<|S.block<|S.seq<|S.regionD (L:=[0,1,2,3,4,5,6,7,8,9,10,11,12,13,14,15,16,17,18,19,20,21,22,23]) F.mixed zD<|OD.q 2 rfl<|OD.ia (.p rfl) underlying72 size166 rfl rfl rfl (by first|assumption|exact Arr.mono hg zE|exact Arr.left zE|exact Arr.left (Arr.mono hg zE)) (h:=fun p12 cs12 hp12 hr12=>?_);obtain ⟨rfl,hi12,hj12⟩:=DotRp.open hr12;refine .quiet (.p rfl) rfl (fun _=>.loadAgg isAgg166 zD rfl hp12) ?_;refine OD.call0 (.p rfl) zD rfl zD rfl rfl ((r7dot_c v[k] rfl)) ?_;rintro _ _ ⟨rfl,rfl⟩
    try simp only [zx1,zx2,zx3]
    refine OD.sT 14 rfl (by exact hd) ?_;refine .quiet (.p rfl) rfl (fun _=>.not rfl)<|OD.q 2 rfl<|.quiet (.g rfl rfl) rfl (fun _=>.gtr rfl rfl)<|OD.sF 18 rfl (by exact decide_eq_false zC) ?_;refine OD.q 15 rfl<|ODx.nil<|S.condF rfl<|S.skip<|S.inBlock<|S.region rfl<|O.q 1 rfl<|O.op (.p rfl) (.add rfl rfl (IntWalk.i64_in _ zC))<|O.q 1 rfl<|O.nil ?_;exact S.wk (ih (k+1) (by exact ⟨by omega,hst.2 ⟨hd,fun h=>absurd h zC⟩⟩) zC)
   ·have hk1:k - 1<v.length:=by omega
    by_cases hlt:v[k - 1].1<v[k].1
    ·
     refine S.skip<|S.seq<|S.block<|S.seq<|S.regionD (L:=[0,1,2,3,4,5,6,7,8,9,10,11,12,13,14,15,16,17,18,19,20,21,22,23]) F.mixed zD<|OD.q 2 rfl<|OD.ia (.p rfl) underlying72 size166 rfl rfl rfl (by first|assumption|exact Arr.mono hg zE|exact Arr.left zE|exact Arr.left (Arr.mono hg zE)) (h:=fun p12 cs12 hp12 hr12=>?_);obtain ⟨rfl,hi12,hj12⟩:=DotRp.open hr12;refine .quiet (.p rfl) rfl (fun _=>.loadAgg isAgg166 zD rfl hp12) ?_;refine OD.call0 (.p rfl) zD rfl zD rfl rfl ((r7dot_c v[k] rfl)) ?_;rintro _ _ ⟨rfl,rfl⟩
     try simp only [zx1,zx2,zx3]
     refine OD.sT 14 rfl (by exact hd) ?_;refine .quiet (.p rfl) rfl (fun _=>.not rfl)<|OD.q 2 rfl<|.quiet (.g rfl rfl) rfl (fun _=>.gtr rfl rfl)<|OD.sT 18 rfl (by exact decide_eq_true zC) ?_;refine OD.q 3 rfl<|.quiet (.g rfl rfl) rfl (fun _=>.sub rfl rfl (IntWalk.i64_in _ zC))<|OD.ia (.g rfl rfl) underlying72 size166 rfl rfl (show _=(((k - 1):Nat):Int) by omega) (by first|assumption|exact Arr.mono hg zE|exact Arr.left zE|exact Arr.left (Arr.mono hg zE)) (h:=fun p23 cs23 hp23 hr23=>?_);obtain ⟨rfl,hi23,hj23⟩:=DotRp.open hr23;refine .quiet (.g rfl rfl) rfl (fun _=>.fieldAddr fld166x0 rfl)<|.quiet (.g rfl rfl) rfl (fun _=>.loadAt flat3 rfl hp23 rfl) ?_;refine OD.q 2 rfl<|OD.ia (.g rfl rfl) underlying72 size166 rfl rfl rfl (by first|assumption|exact Arr.mono hg zE|exact Arr.left zE|exact Arr.left (Arr.mono hg zE)) (h:=fun p28 cs28 hp28 hr28=>?_);obtain ⟨rfl,hi28,hj28⟩:=DotRp.open hr28;refine .quiet (.g rfl rfl) rfl (fun _=>.fieldAddr fld166x0 rfl)<|.quiet (.g rfl rfl) rfl (fun _=>.loadAt flat3 rfl hp28 rfl) ?_;refine .quiet (.g rfl rfl) rfl (fun _=>.geq rfl rfl)<|OD.sF 31 rfl (by exact decide_eq_false zC) ?_;refine OD.q 2 rfl<|ODx.nil<|S.condF rfl<|S.skip<|S.inBlock<|S.region rfl<|O.q 1 rfl<|O.op (.p rfl) (.add rfl rfl (IntWalk.i64_in _ zC))<|O.q 1 rfl<|O.nil ?_;exact S.wk (ih (k+1) (by exact ⟨by omega,hst.2 ⟨hd,fun _=>hlt⟩⟩) zC)
    ·
     refine S.skip<|S.seq<|S.block<|S.seq<|S.regionD (L:=[0,1,2,3,4,5,6,7,8,9,10,11,12,13,14,15,16,17,18,19,20,21,22,23]) F.mixed zD<|OD.q 2 rfl<|OD.ia (.p rfl) underlying72 size166 rfl rfl rfl (by first|assumption|exact Arr.mono hg zE|exact Arr.left zE|exact Arr.left (Arr.mono hg zE)) (h:=fun p12 cs12 hp12 hr12=>?_);obtain ⟨rfl,hi12,hj12⟩:=DotRp.open hr12;refine .quiet (.p rfl) rfl (fun _=>.loadAgg isAgg166 zD rfl hp12) ?_;refine OD.call0 (.p rfl) zD rfl zD rfl rfl ((r7dot_c v[k] rfl)) ?_;rintro _ _ ⟨rfl,rfl⟩
     try simp only [zx1,zx2,zx3]
     refine OD.sT 14 rfl (by exact hd) ?_;refine .quiet (.p rfl) rfl (fun _=>.not rfl)<|OD.q 2 rfl<|.quiet (.g rfl rfl) rfl (fun _=>.gtr rfl rfl)<|OD.sT 18 rfl (by exact decide_eq_true zC) ?_;refine OD.q 3 rfl<|.quiet (.g rfl rfl) rfl (fun _=>.sub rfl rfl (IntWalk.i64_in _ zC))<|OD.ia (.g rfl rfl) underlying72 size166 rfl rfl (show _=(((k - 1):Nat):Int) by omega) (by first|assumption|exact Arr.mono hg zE|exact Arr.left zE|exact Arr.left (Arr.mono hg zE)) (h:=fun p23 cs23 hp23 hr23=>?_);obtain ⟨rfl,hi23,hj23⟩:=DotRp.open hr23;refine .quiet (.g rfl rfl) rfl (fun _=>.fieldAddr fld166x0 rfl)<|.quiet (.g rfl rfl) rfl (fun _=>.loadAt flat3 rfl hp23 rfl) ?_;refine OD.q 2 rfl<|OD.ia (.g rfl rfl) underlying72 size166 rfl rfl rfl (by first|assumption|exact Arr.mono hg zE|exact Arr.left zE|exact Arr.left (Arr.mono hg zE)) (h:=fun p28 cs28 hp28 hr28=>?_);obtain ⟨rfl,hi28,hj28⟩:=DotRp.open hr28;refine .quiet (.g rfl rfl) rfl (fun _=>.fieldAddr fld166x0 rfl)<|.quiet (.g rfl rfl) rfl (fun _=>.loadAt flat3 rfl hp28 rfl) ?_;refine .quiet (.g rfl rfl) rfl (fun _=>.geq rfl rfl)<|OD.sT 31 rfl (by exact decide_eq_true zC) ?_;refine OD.q 2 rfl<|ODx.nil<|S.condT rfl<|S.seq<|S.region rfl<|O.q 1 rfl<|O.nil ?_;exact S.rt results287 rfl hR ⟨congrArg _ (vecOk_none (i:=k+1) (Bool.eq_false_iff.2 fun e=>hlt ((hst.1 e).2 zC))).symm,rfl⟩
  ·have hd' :dotOk v[k]=false:=by simpa using hd
   refine S.skip<|S.seq<|S.block<|S.seq<|S.regionD (L:=[0,1,2,3,4,5,6,7,8,9,10,11,12,13,14,15,16,17,18,19,20,21,22,23]) F.mixed zD<|OD.q 2 rfl<|OD.ia (.p rfl) underlying72 size166 rfl rfl rfl (by first|assumption|exact Arr.mono hg zE|exact Arr.left zE|exact Arr.left (Arr.mono hg zE)) (h:=fun p12 cs12 hp12 hr12=>?_);obtain ⟨rfl,hi12,hj12⟩:=DotRp.open hr12;refine .quiet (.p rfl) rfl (fun _=>.loadAgg isAgg166 zD rfl hp12) ?_;refine OD.call0 (.p rfl) zD rfl zD rfl rfl ((r7dot_c v[k] rfl)) ?_;rintro _ _ ⟨rfl,rfl⟩
   try simp only [zx1,zx2,zx3]
   refine OD.sF 14 rfl (by exact hd') ?_;refine .quiet (.p rfl) rfl (fun _=>.not rfl)<|OD.q 18 rfl<|ODx.nil<|S.condT rfl<|S.seq<|S.region rfl<|O.q 1 rfl<|O.nil ?_;exact S.rt results287 rfl hR ⟨congrArg _ (vecOk_none (i:=k+1) (Bool.eq_false_iff.2 fun e=>hd (hst.1 e).1)).symm,rfl⟩
 ·clear ih
  have hk:k=v.length:=by omega
  subst hk;rw [List.take_length] at hx2;refine S.exit rfl<|S.seq<|S.region rfl<|O.q 1 rfl<|O.nil ?_;exact S.rt results287 rfl hR ⟨by rw [hx2],rfl⟩
theorem r7up_c {r:Fr} {va:Value} {v:List DotT} (c:Int) (ha:Arr DotRp r va v) (ho:vecOk v=true) :
  Con prog 288 #[va,.int .i64 c] r [] (Ret fun u η=>∃ z,u=.int .i64 z∧(∀ s,1≤s→decide (s≤z)=hasM v (c,s,()))∧η=[]):=by
 have hri:=(vecOk_iff.1 ho).2;refine Con.of (n:=24) _ rfl func288 rfl rfl rfl fun g hg R hR=>?_;have ha:=ha.mono hg;have hbd:=ha.bound;obtain ⟨a1,c1,rfl⟩:=ha.shape;refine S.seq<|S.region rfl<|O.q 1 rfl<|O.nil<|S.seq<|S.seq<|S.region rfl<|O.q 1 rfl<|O.nil<|S.block<|S.loopK (ι:=Nat) (fun k=>k≤v.length∧∀ x∈v.take k,¬ x.1=c) (fun k=>[(5,.int .i64 (k:Int))]) [(0,_),(1,_)] (fun k=>[]) (fun k=>v.length - k) (0) (by exact ⟨by simp,by simp⟩) (.cons rfl (.nil)) (.cons rfl (.cons rfl (.nil))) rfl fun k hx ih=>?_;have hm1:=meltRefl (g:=g);obtain ⟨hx1,hx2⟩:=hx;refine S.seq<|S.seq<|S.region rfl<|O.q 2 rfl<|O.op (.p rfl) (.len rfl underlying72 rfl)<|O.op (.p rfl) (.lss rfl rfl)<|O.nil ?_
 first|refine S.condD rfl (fun h9=>?_) (fun h9=>?_)|refine S.condB rfl (fun h9=>?_) (fun h9=>?_)
 ·have hk:k<v.length:=by omega
  by_cases e:v[k].1=c
  ·
   refine S.skip<|S.seq<|S.block<|S.seq<|S.region rfl<|O.q 2 rfl<|O.ia (.p rfl) underlying72 size166 rfl rfl rfl (by first|assumption|exact Arr.mono hg zE|exact Arr.left zE|exact Arr.left (Arr.mono hg zE)) (h:=fun p14 cs14 hp14 hr14=>?_);obtain ⟨rfl,hi14,hj14⟩:=DotRp.open hr14;refine O.op (.p rfl) (.fieldAddr fld166x0 rfl)<|O.op (.p rfl) (.loadAt flat3 rfl hp14 rfl) ?_;refine O.q 1 rfl<|O.op (.p rfl) (.eql rfl rfl)<|O.sT 18 rfl (by exact decide_eq_true e) ?_;refine O.nil<|S.condT rfl<|S.seq<|S.region rfl<|O.q 2 rfl<|O.ia (.p rfl) underlying72 size166 rfl rfl rfl (by first|assumption|exact Arr.mono hg zE|exact Arr.left zE|exact Arr.left (Arr.mono hg zE)) (h:=fun p21 cs21 hp21 hr21=>?_);obtain ⟨rfl,hi21,hj21⟩:=DotRp.open hr21;refine O.op (.p rfl) (.fieldAddr fld166x1 rfl)<|O.op (.p rfl) (.loadAt flat3 rfl (hp21.drop 1) rfl) ?_;refine O.q 1 rfl<|O.nil ?_;exact S.rt results288 rfl hR ⟨_,rfl,fun s _=>(hasM_at (d:=(c,s,())) hri hk e).symm,rfl⟩
  ·
   refine S.skip<|S.seq<|S.block<|S.seq<|S.region rfl<|O.q 2 rfl<|O.ia (.p rfl) underlying72 size166 rfl rfl rfl (by first|assumption|exact Arr.mono hg zE|exact Arr.left zE|exact Arr.left (Arr.mono hg zE)) (h:=fun p14 cs14 hp14 hr14=>?_);obtain ⟨rfl,hi14,hj14⟩:=DotRp.open hr14;refine O.op (.p rfl) (.fieldAddr fld166x0 rfl)<|O.op (.p rfl) (.loadAt flat3 rfl hp14 rfl) ?_;refine O.q 1 rfl<|O.op (.p rfl) (.eql rfl rfl)<|O.sF 18 rfl (by exact decide_eq_false e) ?_;refine O.nil<|S.condF rfl<|S.skip<|S.inBlock<|S.region rfl<|O.q 1 rfl<|O.op (.p rfl) (.add rfl rfl (IntWalk.i64_in _ zC))<|O.q 1 rfl<|O.nil ?_;exact S.wk (ih (k+1) (by exact ⟨by omega,mem_take_succ hk hx2 e⟩) zC)
 ·clear ih
  have hk:k=v.length:=by omega
  subst hk;rw [List.take_length] at hx2;refine S.exit rfl<|S.seq<|S.region rfl<|O.q 1 rfl<|O.nil ?_;exact S.rt results288 rfl hR ⟨0,rfl,fun s hs=>by rw [decide_eq_false zC];exact (List.any_eq_false.2 fun x hx=>by simp [hx2 x hx]).symm,rfl⟩
theorem r7has_c {r:Fr} {va:Value} {v:List DotT} {a b:Int} (d:DotT) (h:d=(a,b,())) (ha:Arr DotRp r va v) :
  Con prog 216 #[va,.agg #[.int .i64 a,.int .i64 b]] r [] (Ret fun u η=>u=.bool (hasR v d)∧η=[]):=by
 subst h;refine Con.of (n:=20) _ rfl func216 rfl rfl rfl fun g hg R hR=>?_;have ha:=ha.mono hg;obtain ⟨a1,c1,rfl⟩:=ha.shape;refine S.seq<|S.region rfl<|O.opE (.p rfl) (.box (cs:=[_,_]) rfl rfl) ?_;rintro _ _ ⟨b3,rfl,rfl⟩;refine O.q 1 rfl<|O.nil<|S.seq<|S.frzO zB fun g hs hm hb3=>?_;replace hg:=Fr.sub_trans hg hs;replace hR:=melted hR hm
 try replace ha:=ha.mono hs
 clear hs hm
 cases e1:vecOk v with
 |false =>
  refine S.regionD (L:=[0,1,2,3,4,5,6,7,8,9,11,12,10,13,14,15]) F.mixed zD ?_;refine OD.q 1 rfl<|OD.call0 (.p rfl) zD rfl zD rfl rfl ((r7right_c ha)) ?_;rintro _ _ ⟨rfl,rfl⟩
  try simp only [zx1,zx2,zx3]
  refine OD.sF 6 rfl (by exact e1) ?_;refine OD.q 14 rfl<|ODx.nil ?_;exact S.rt results216 rfl hR ⟨by simp [hasR,e1],rfl⟩
 |true =>
  cases e2:dotOk (a,b,()) with
  |false =>
   refine S.regionD (L:=[0,1,2,3,4,5,6,7,8,9,11,12,10,13,14,15]) F.mixed zD ?_;refine OD.q 1 rfl<|OD.call0 (.p rfl) zD rfl zD rfl rfl ((r7right_c ha)) ?_;rintro _ _ ⟨rfl,rfl⟩
   try simp only [zx1,zx2,zx3]
   refine OD.sT 6 rfl (by exact e1) ?_;refine OD.q 1 rfl<|.quiet (.g rfl rfl) rfl (fun _=>.loadAgg isAgg166 zD rfl hb3) ?_;refine OD.call0 (.g rfl rfl) zD rfl zD rfl rfl ((r7dot_c _ rfl)) ?_;rintro _ _ ⟨rfl,rfl⟩
   try simp only [zx1,zx2,zx3]
   refine OD.sF 9 rfl (by exact e2) ?_;refine OD.q 11 rfl<|ODx.nil ?_;exact S.rt results216 rfl hR ⟨by simp [hasR,e1,e2],rfl⟩
  |true =>
   have hb:=(dotOk_iff.1 e2).2.2.1;refine S.regionD (L:=[0,1,2,3,4,5,6,7,8,9,11,12,10,13,14,15]) F.mixed zD ?_;refine OD.q 1 rfl<|OD.call0 (.p rfl) zD rfl zD rfl rfl ((r7right_c ha)) ?_;rintro _ _ ⟨rfl,rfl⟩
   try simp only [zx1,zx2,zx3]
   refine OD.sT 6 rfl (by exact e1) ?_;refine OD.q 1 rfl<|.quiet (.g rfl rfl) rfl (fun _=>.loadAgg isAgg166 zD rfl hb3) ?_;refine OD.call0 (.g rfl rfl) zD rfl zD rfl rfl ((r7dot_c _ rfl)) ?_;rintro _ _ ⟨rfl,rfl⟩
   try simp only [zx1,zx2,zx3]
   refine OD.sT 9 rfl (by exact e2) ?_;refine OD.q 3 rfl<|.quiet (.g rfl rfl) rfl (fun _=>.fieldAddr fld166x0 rfl)<|.quiet (.g rfl rfl) rfl (fun _=>.loadAt flat3 rfl hb3 rfl) ?_;refine .quiet (.g rfl rfl) rfl (fun _=>.fieldAddr fld166x1 rfl)<|.quiet (.g rfl rfl) rfl (fun _=>.loadAt flat3 rfl (hb3.drop 1) rfl) ?_;refine OD.call0 (.g rfl rfl) zD rfl zD rfl rfl ((r7up_c _ ha e1)) ?_;rintro v15 _ ⟨z,rfl,hz,rfl⟩
   try simp only [zx1,zx2,zx3]
   refine .quiet (.g rfl rfl) rfl (fun _=>.geq rfl rfl)<|OD.q 2 rfl<|ODx.nil ?_;exact S.rt results216 rfl hR ⟨congrArg _ (by rw [hasR,e1,e2,← hz b hb];rfl),rfl⟩
theorem r8shape_c {r:Fr} {cs:List Value} {x:RecT} (h:RecRp.rel r cs x):Con prog 215 #[.agg cs.toArray] r [] (Ret fun v η=>v=.bool (shaped x)∧η=[]):=by
 obtain ⟨xa3,xa5,xa6,xc3,xc5,xc6,rfl,k0,k1,k2,k3,k5,k6⟩:=RecRp.sh h;have hz0:=str_size x.1;refine Con.of (n:=51) _ rfl func215 rfl rfl rfl fun g hg R hR=>?_;have h:=h.mono hg;have k3:=k3.mono hg;have k5:=k5.mono hg;have k6:=k6.mono hg;refine S.seq<|S.region rfl<|O.opE (.p rfl) (.box (cs:=[_,_,_,_,_,_,_]) rfl rfl) ?_;rintro _ _ ⟨b1,rfl,rfl⟩;refine O.q 1 rfl<|O.nil<|S.seq<|S.frzO zB fun g hs hm hb1=>?_;replace hg:=Fr.sub_trans hg hs;replace hR:=melted hR hm
 try replace h:=h.mono hs
 try replace k3:=k3.mono hs
 try replace k5:=k5.mono hs
 try replace k6:=k6.mono hs
 clear hs hm
 by_cases n0:¬ (1≤x.1.length)
 ·
  refine S.region rfl<|O.op (.p rfl) (.fieldAddr fld74x1 rfl)<|O.op (.p rfl) (.loadAt flat3 rfl (hb1.drop 1) rfl) ?_;refine O.op (.p rfl) (.fieldAddr fld74x2 rfl)<|O.op (.p rfl) (.loadAt flat3 rfl (hb1.drop 2) rfl) ?_;refine O.op (.p rfl) (.build (cs:=[_,_]) underlying166 rfl rfl rfl rfl rfl)<|O.opE (.p rfl) (.alloc (cs:=[.int .i64 0,.int .i64 0]) zeroValue166 rfl) ?_;rintro _ _ ⟨b3,rfl,rfl⟩;refine O.opU rfl (.storeObj zD rfl rfl rfl rfl zB zK) ?_;refine O.nil<|S.seq<|S.seq<|S.frzO zB fun g hs hm hb3=>?_;replace hg:=Fr.sub_trans hg hs;replace hR:=melted hR hm
  try replace h:=h.mono hs
  try replace k3:=k3.mono hs
  try replace k5:=k5.mono hs
  try replace k6:=k6.mono hs
  try replace hb1:=hb1.mono hs
  clear hs hm;refine S.region rfl<|O.op (.p rfl) (.fieldAddr fld74x0 rfl)<|O.op (.p rfl) (.loadAt flat9 rfl hb1 rfl) ?_;refine O.op (.p rfl) (.lenS rfl underlying9 rfl)<|O.op (.p rfl) (.lss rfl rfl)<|O.sT 12 rfl (by exact decide_eq_true (by rw [hz0];omega)) ?_;refine O.q 23 rfl<|O.nil<|S.condT rfl<|S.seq<|S.region rfl<|O.q 1 rfl<|O.nil ?_;exact S.rt results215 rfl hR ⟨congrArg _ (Bool.eq_false_iff.2 fun q=>n0 (shaped_iff.1 q).1).symm,rfl⟩
 have c0:=Classical.not_not.1 n0
 by_cases n1:¬ (x.1.length≤64)
 ·
  refine S.region rfl<|O.op (.p rfl) (.fieldAddr fld74x1 rfl)<|O.op (.p rfl) (.loadAt flat3 rfl (hb1.drop 1) rfl) ?_;refine O.op (.p rfl) (.fieldAddr fld74x2 rfl)<|O.op (.p rfl) (.loadAt flat3 rfl (hb1.drop 2) rfl) ?_;refine O.op (.p rfl) (.build (cs:=[_,_]) underlying166 rfl rfl rfl rfl rfl)<|O.opE (.p rfl) (.alloc (cs:=[.int .i64 0,.int .i64 0]) zeroValue166 rfl) ?_;rintro _ _ ⟨b3,rfl,rfl⟩;refine O.opU rfl (.storeObj zD rfl rfl rfl rfl zB zK) ?_;refine O.nil<|S.seq<|S.seq<|S.frzO zB fun g hs hm hb3=>?_;replace hg:=Fr.sub_trans hg hs;replace hR:=melted hR hm
  try replace h:=h.mono hs
  try replace k3:=k3.mono hs
  try replace k5:=k5.mono hs
  try replace k6:=k6.mono hs
  try replace hb1:=hb1.mono hs
  clear hs hm;refine S.region rfl<|O.op (.p rfl) (.fieldAddr fld74x0 rfl)<|O.op (.p rfl) (.loadAt flat9 rfl hb1 rfl) ?_;refine O.op (.p rfl) (.lenS rfl underlying9 rfl)<|O.op (.p rfl) (.lss rfl rfl)<|O.sF 12 rfl (by exact decide_eq_false (by rw [hz0];omega)) ?_;refine O.q 1 rfl<|O.op (.g rfl rfl) (.fieldAddr fld74x0 rfl)<|O.op (.g rfl rfl) (.loadAt flat9 rfl hb1 rfl) ?_;refine O.op (.g rfl rfl) (.lenS rfl underlying9 rfl)<|O.op (.g rfl rfl) (.gtr rfl rfl)<|O.sT 17 rfl (by exact decide_eq_true (by rw [hz0];omega)) ?_;refine O.q 18 rfl<|O.nil<|S.condT rfl<|S.seq<|S.region rfl<|O.q 1 rfl<|O.nil ?_;exact S.rt results215 rfl hR ⟨congrArg _ (Bool.eq_false_iff.2 fun q=>n1 (shaped_iff.1 q).2.1).symm,rfl⟩
 have c1:=Classical.not_not.1 n1
 by_cases n2:¬ (dotOk (rDot x)=true)
 ·
  refine S.region rfl<|O.op (.p rfl) (.fieldAddr fld74x1 rfl)<|O.op (.p rfl) (.loadAt flat3 rfl (hb1.drop 1) rfl) ?_;refine O.op (.p rfl) (.fieldAddr fld74x2 rfl)<|O.op (.p rfl) (.loadAt flat3 rfl (hb1.drop 2) rfl) ?_;refine O.op (.p rfl) (.build (cs:=[_,_]) underlying166 rfl rfl rfl rfl rfl)<|O.opE (.p rfl) (.alloc (cs:=[.int .i64 0,.int .i64 0]) zeroValue166 rfl) ?_;rintro _ _ ⟨b3,rfl,rfl⟩;refine O.opU rfl (.storeObj zD rfl rfl rfl rfl zB zK) ?_;refine O.nil<|S.seq<|S.seq<|S.frzO zB fun g hs hm hb3=>?_;replace hg:=Fr.sub_trans hg hs;replace hR:=melted hR hm
  try replace h:=h.mono hs
  try replace k3:=k3.mono hs
  try replace k5:=k5.mono hs
  try replace k6:=k6.mono hs
  try replace hb1:=hb1.mono hs
  clear hs hm;refine S.region rfl<|O.op (.p rfl) (.fieldAddr fld74x0 rfl)<|O.op (.p rfl) (.loadAt flat9 rfl hb1 rfl) ?_;refine O.op (.p rfl) (.lenS rfl underlying9 rfl)<|O.op (.p rfl) (.lss rfl rfl)<|O.sF 12 rfl (by exact decide_eq_false (by rw [hz0];omega)) ?_;refine O.q 1 rfl<|O.op (.g rfl rfl) (.fieldAddr fld74x0 rfl)<|O.op (.g rfl rfl) (.loadAt flat9 rfl hb1 rfl) ?_;refine O.op (.g rfl rfl) (.lenS rfl underlying9 rfl)<|O.op (.g rfl rfl) (.gtr rfl rfl)<|O.sF 17 rfl (by exact decide_eq_false (by rw [hz0];omega)) ?_;refine O.q 2 rfl<|O.op (.g rfl rfl) (.loadAgg isAgg166 zD rfl hb3) ?_;refine O.call0 (.g rfl rfl) rfl zD rfl rfl ((r7dot_c (rDot x) rfl)) ?_;rintro _ _ ⟨rfl,rfl⟩
  try simp only [zx1,zx2,zx3]
  refine O.sF 21 rfl (by exact (by simpa using n2)) ?_;refine O.op (.g rfl rfl) (.not rfl)<|O.q 13 rfl<|O.nil<|S.condT rfl<|S.seq<|S.region rfl<|O.q 1 rfl<|O.nil ?_;exact S.rt results215 rfl hR ⟨congrArg _ (Bool.eq_false_iff.2 fun q=>n2 (shaped_iff.1 q).2.2.1).symm,rfl⟩
 have c2:=Classical.not_not.1 n2
 by_cases n3:¬ (vecOk x.2.2.2.1=true)
 ·
  refine S.region rfl<|O.op (.p rfl) (.fieldAddr fld74x1 rfl)<|O.op (.p rfl) (.loadAt flat3 rfl (hb1.drop 1) rfl) ?_;refine O.op (.p rfl) (.fieldAddr fld74x2 rfl)<|O.op (.p rfl) (.loadAt flat3 rfl (hb1.drop 2) rfl) ?_;refine O.op (.p rfl) (.build (cs:=[_,_]) underlying166 rfl rfl rfl rfl rfl)<|O.opE (.p rfl) (.alloc (cs:=[.int .i64 0,.int .i64 0]) zeroValue166 rfl) ?_;rintro _ _ ⟨b3,rfl,rfl⟩;refine O.opU rfl (.storeObj zD rfl rfl rfl rfl zB zK) ?_;refine O.nil<|S.seq<|S.seq<|S.frzO zB fun g hs hm hb3=>?_;replace hg:=Fr.sub_trans hg hs;replace hR:=melted hR hm
  try replace h:=h.mono hs
  try replace k3:=k3.mono hs
  try replace k5:=k5.mono hs
  try replace k6:=k6.mono hs
  try replace hb1:=hb1.mono hs
  clear hs hm;refine S.region rfl<|O.op (.p rfl) (.fieldAddr fld74x0 rfl)<|O.op (.p rfl) (.loadAt flat9 rfl hb1 rfl) ?_;refine O.op (.p rfl) (.lenS rfl underlying9 rfl)<|O.op (.p rfl) (.lss rfl rfl)<|O.sF 12 rfl (by exact decide_eq_false (by rw [hz0];omega)) ?_;refine O.q 1 rfl<|O.op (.g rfl rfl) (.fieldAddr fld74x0 rfl)<|O.op (.g rfl rfl) (.loadAt flat9 rfl hb1 rfl) ?_;refine O.op (.g rfl rfl) (.lenS rfl underlying9 rfl)<|O.op (.g rfl rfl) (.gtr rfl rfl)<|O.sF 17 rfl (by exact decide_eq_false (by rw [hz0];omega)) ?_;refine O.q 2 rfl<|O.op (.g rfl rfl) (.loadAgg isAgg166 zD rfl hb3) ?_;refine O.call0 (.g rfl rfl) rfl zD rfl rfl ((r7dot_c (rDot x) rfl)) ?_;rintro _ _ ⟨rfl,rfl⟩
  try simp only [zx1,zx2,zx3]
  refine O.sT 21 rfl (by exact c2) ?_;refine O.op (.g rfl rfl) (.not rfl)<|O.q 2 rfl<|O.op (.g rfl rfl) (.fieldAddr fld74x3 rfl)<|O.op (.g rfl rfl) (.loadAt flat72 rfl (hb1.drop 3) rfl) ?_;refine O.call0 (.g rfl rfl) rfl zD rfl rfl ((r7right_c k3)) ?_;rintro _ _ ⟨rfl,rfl⟩
  try simp only [zx1,zx2,zx3]
  refine O.sF 27 rfl (by exact (by simpa using n3)) ?_;refine O.op (.g rfl rfl) (.not rfl)<|O.q 7 rfl<|O.nil<|S.condT rfl<|S.seq<|S.region rfl<|O.q 1 rfl<|O.nil ?_;exact S.rt results215 rfl hR ⟨congrArg _ (Bool.eq_false_iff.2 fun q=>n3 (shaped_iff.1 q).2.2.2.1).symm,rfl⟩
 have c3:=Classical.not_not.1 n3
 by_cases n4:¬ (hasR x.2.2.2.1 (rDot x)=false)
 ·
  refine S.region rfl<|O.op (.p rfl) (.fieldAddr fld74x1 rfl)<|O.op (.p rfl) (.loadAt flat3 rfl (hb1.drop 1) rfl) ?_;refine O.op (.p rfl) (.fieldAddr fld74x2 rfl)<|O.op (.p rfl) (.loadAt flat3 rfl (hb1.drop 2) rfl) ?_;refine O.op (.p rfl) (.build (cs:=[_,_]) underlying166 rfl rfl rfl rfl rfl)<|O.opE (.p rfl) (.alloc (cs:=[.int .i64 0,.int .i64 0]) zeroValue166 rfl) ?_;rintro _ _ ⟨b3,rfl,rfl⟩;refine O.opU rfl (.storeObj zD rfl rfl rfl rfl zB zK) ?_;refine O.nil<|S.seq<|S.seq<|S.frzO zB fun g hs hm hb3=>?_;replace hg:=Fr.sub_trans hg hs;replace hR:=melted hR hm
  try replace h:=h.mono hs
  try replace k3:=k3.mono hs
  try replace k5:=k5.mono hs
  try replace k6:=k6.mono hs
  try replace hb1:=hb1.mono hs
  clear hs hm;refine S.region rfl<|O.op (.p rfl) (.fieldAddr fld74x0 rfl)<|O.op (.p rfl) (.loadAt flat9 rfl hb1 rfl) ?_;refine O.op (.p rfl) (.lenS rfl underlying9 rfl)<|O.op (.p rfl) (.lss rfl rfl)<|O.sF 12 rfl (by exact decide_eq_false (by rw [hz0];omega)) ?_;refine O.q 1 rfl<|O.op (.g rfl rfl) (.fieldAddr fld74x0 rfl)<|O.op (.g rfl rfl) (.loadAt flat9 rfl hb1 rfl) ?_;refine O.op (.g rfl rfl) (.lenS rfl underlying9 rfl)<|O.op (.g rfl rfl) (.gtr rfl rfl)<|O.sF 17 rfl (by exact decide_eq_false (by rw [hz0];omega)) ?_;refine O.q 2 rfl<|O.op (.g rfl rfl) (.loadAgg isAgg166 zD rfl hb3) ?_;refine O.call0 (.g rfl rfl) rfl zD rfl rfl ((r7dot_c (rDot x) rfl)) ?_;rintro _ _ ⟨rfl,rfl⟩
  try simp only [zx1,zx2,zx3]
  refine O.sT 21 rfl (by exact c2) ?_;refine O.op (.g rfl rfl) (.not rfl)<|O.q 2 rfl<|O.op (.g rfl rfl) (.fieldAddr fld74x3 rfl)<|O.op (.g rfl rfl) (.loadAt flat72 rfl (hb1.drop 3) rfl) ?_;refine O.call0 (.g rfl rfl) rfl zD rfl rfl ((r7right_c k3)) ?_;rintro _ _ ⟨rfl,rfl⟩
  try simp only [zx1,zx2,zx3]
  refine O.sT 27 rfl (by exact c3) ?_;refine O.op (.g rfl rfl) (.not rfl)<|O.q 2 rfl<|O.op (.g rfl rfl) (.fieldAddr fld74x3 rfl)<|O.op (.g rfl rfl) (.loadAt flat72 rfl (hb1.drop 3) rfl) ?_;refine O.op (.g rfl rfl) (.loadAgg isAgg166 zD rfl hb3) ?_;refine O.call0 (.g rfl rfl) rfl zD rfl rfl ((r7has_c (rDot x) rfl k3)) ?_;rintro _ _ ⟨rfl,rfl⟩
  try simp only [zx1,zx2,zx3]
  refine O.sT 34 rfl (by exact (by simpa using n4)) ?_;refine O.q 1 rfl<|O.nil<|S.condT rfl<|S.seq<|S.region rfl<|O.q 1 rfl<|O.nil ?_;exact S.rt results215 rfl hR ⟨congrArg _ (Bool.eq_false_iff.2 fun q=>n4 (shaped_iff.1 q).2.2.2.2.1).symm,rfl⟩
 have c4:=Classical.not_not.1 n4
 by_cases n5:¬ (x.2.2.2.2.2.1.length≤1024)
 ·
  refine S.region rfl<|O.op (.p rfl) (.fieldAddr fld74x1 rfl)<|O.op (.p rfl) (.loadAt flat3 rfl (hb1.drop 1) rfl) ?_;refine O.op (.p rfl) (.fieldAddr fld74x2 rfl)<|O.op (.p rfl) (.loadAt flat3 rfl (hb1.drop 2) rfl) ?_;refine O.op (.p rfl) (.build (cs:=[_,_]) underlying166 rfl rfl rfl rfl rfl)<|O.opE (.p rfl) (.alloc (cs:=[.int .i64 0,.int .i64 0]) zeroValue166 rfl) ?_;rintro _ _ ⟨b3,rfl,rfl⟩;refine O.opU rfl (.storeObj zD rfl rfl rfl rfl zB zK) ?_;refine O.nil<|S.seq<|S.seq<|S.frzO zB fun g hs hm hb3=>?_;replace hg:=Fr.sub_trans hg hs;replace hR:=melted hR hm
  try replace h:=h.mono hs
  try replace k3:=k3.mono hs
  try replace k5:=k5.mono hs
  try replace k6:=k6.mono hs
  try replace hb1:=hb1.mono hs
  clear hs hm;refine S.region rfl<|O.op (.p rfl) (.fieldAddr fld74x0 rfl)<|O.op (.p rfl) (.loadAt flat9 rfl hb1 rfl) ?_;refine O.op (.p rfl) (.lenS rfl underlying9 rfl)<|O.op (.p rfl) (.lss rfl rfl)<|O.sF 12 rfl (by exact decide_eq_false (by rw [hz0];omega)) ?_;refine O.q 1 rfl<|O.op (.g rfl rfl) (.fieldAddr fld74x0 rfl)<|O.op (.g rfl rfl) (.loadAt flat9 rfl hb1 rfl) ?_;refine O.op (.g rfl rfl) (.lenS rfl underlying9 rfl)<|O.op (.g rfl rfl) (.gtr rfl rfl)<|O.sF 17 rfl (by exact decide_eq_false (by rw [hz0];omega)) ?_;refine O.q 2 rfl<|O.op (.g rfl rfl) (.loadAgg isAgg166 zD rfl hb3) ?_;refine O.call0 (.g rfl rfl) rfl zD rfl rfl ((r7dot_c (rDot x) rfl)) ?_;rintro _ _ ⟨rfl,rfl⟩
  try simp only [zx1,zx2,zx3]
  refine O.sT 21 rfl (by exact c2) ?_;refine O.op (.g rfl rfl) (.not rfl)<|O.q 2 rfl<|O.op (.g rfl rfl) (.fieldAddr fld74x3 rfl)<|O.op (.g rfl rfl) (.loadAt flat72 rfl (hb1.drop 3) rfl) ?_;refine O.call0 (.g rfl rfl) rfl zD rfl rfl ((r7right_c k3)) ?_;rintro _ _ ⟨rfl,rfl⟩
  try simp only [zx1,zx2,zx3]
  refine O.sT 27 rfl (by exact c3) ?_;refine O.op (.g rfl rfl) (.not rfl)<|O.q 2 rfl<|O.op (.g rfl rfl) (.fieldAddr fld74x3 rfl)<|O.op (.g rfl rfl) (.loadAt flat72 rfl (hb1.drop 3) rfl) ?_;refine O.op (.g rfl rfl) (.loadAgg isAgg166 zD rfl hb3) ?_;refine O.call0 (.g rfl rfl) rfl zD rfl rfl ((r7has_c (rDot x) rfl k3)) ?_;rintro _ _ ⟨rfl,rfl⟩
  try simp only [zx1,zx2,zx3]
  refine O.sF 34 rfl (by exact c4) ?_;refine O.q 1 rfl<|O.nil<|S.condF rfl<|S.skip<|S.seq<|S.region rfl<|O.op (.p rfl) (.fieldAddr fld74x5 rfl)<|O.op (.p rfl) (.loadAt flat31 rfl (hb1.drop 5) rfl) ?_;refine O.op (.p rfl) (.len rfl underlying31 rfl)<|O.op (.p rfl) (.leq rfl rfl)<|O.sF 39 rfl (by exact decide_eq_false zC) ?_;refine O.q 12 rfl<|O.nil ?_;exact S.rt results215 rfl hR ⟨congrArg _ (Bool.eq_false_iff.2 fun q=>n5 (shaped_iff.1 q).2.2.2.2.2.1).symm,rfl⟩
 have c5:=Classical.not_not.1 n5
 cases g4:x.2.2.2.2.1 with
 |false =>
  have hs:shaped x=true:=shaped_iff.2 ⟨c0,c1,c2,c3,c4,c5,fun q=>by rw [g4] at q;cases q⟩;refine S.region rfl<|O.op (.p rfl) (.fieldAddr fld74x1 rfl)<|O.op (.p rfl) (.loadAt flat3 rfl (hb1.drop 1) rfl) ?_;refine O.op (.p rfl) (.fieldAddr fld74x2 rfl)<|O.op (.p rfl) (.loadAt flat3 rfl (hb1.drop 2) rfl) ?_;refine O.op (.p rfl) (.build (cs:=[_,_]) underlying166 rfl rfl rfl rfl rfl)<|O.opE (.p rfl) (.alloc (cs:=[.int .i64 0,.int .i64 0]) zeroValue166 rfl) ?_;rintro _ _ ⟨b3,rfl,rfl⟩;refine O.opU rfl (.storeObj zD rfl rfl rfl rfl zB zK) ?_;refine O.nil<|S.seq<|S.seq<|S.frzO zB fun g hs hm hb3=>?_;replace hg:=Fr.sub_trans hg hs;replace hR:=melted hR hm
  try replace h:=h.mono hs
  try replace k3:=k3.mono hs
  try replace k5:=k5.mono hs
  try replace k6:=k6.mono hs
  try replace hb1:=hb1.mono hs
  clear hs hm;refine S.region rfl<|O.op (.p rfl) (.fieldAddr fld74x0 rfl)<|O.op (.p rfl) (.loadAt flat9 rfl hb1 rfl) ?_;refine O.op (.p rfl) (.lenS rfl underlying9 rfl)<|O.op (.p rfl) (.lss rfl rfl)<|O.sF 12 rfl (by exact decide_eq_false (by rw [hz0];omega)) ?_;refine O.q 1 rfl<|O.op (.g rfl rfl) (.fieldAddr fld74x0 rfl)<|O.op (.g rfl rfl) (.loadAt flat9 rfl hb1 rfl) ?_;refine O.op (.g rfl rfl) (.lenS rfl underlying9 rfl)<|O.op (.g rfl rfl) (.gtr rfl rfl)<|O.sF 17 rfl (by exact decide_eq_false (by rw [hz0];omega)) ?_;refine O.q 2 rfl<|O.op (.g rfl rfl) (.loadAgg isAgg166 zD rfl hb3) ?_;refine O.call0 (.g rfl rfl) rfl zD rfl rfl ((r7dot_c (rDot x) rfl)) ?_;rintro _ _ ⟨rfl,rfl⟩
  try simp only [zx1,zx2,zx3]
  refine O.sT 21 rfl (by exact c2) ?_;refine O.op (.g rfl rfl) (.not rfl)<|O.q 2 rfl<|O.op (.g rfl rfl) (.fieldAddr fld74x3 rfl)<|O.op (.g rfl rfl) (.loadAt flat72 rfl (hb1.drop 3) rfl) ?_;refine O.call0 (.g rfl rfl) rfl zD rfl rfl ((r7right_c k3)) ?_;rintro _ _ ⟨rfl,rfl⟩
  try simp only [zx1,zx2,zx3]
  refine O.sT 27 rfl (by exact c3) ?_;refine O.op (.g rfl rfl) (.not rfl)<|O.q 2 rfl<|O.op (.g rfl rfl) (.fieldAddr fld74x3 rfl)<|O.op (.g rfl rfl) (.loadAt flat72 rfl (hb1.drop 3) rfl) ?_;refine O.op (.g rfl rfl) (.loadAgg isAgg166 zD rfl hb3) ?_;refine O.call0 (.g rfl rfl) rfl zD rfl rfl ((r7has_c (rDot x) rfl k3)) ?_;rintro _ _ ⟨rfl,rfl⟩
  try simp only [zx1,zx2,zx3]
  refine O.sF 34 rfl (by exact c4) ?_;refine O.q 1 rfl<|O.nil<|S.condF rfl<|S.skip<|S.seq<|S.region rfl<|O.op (.p rfl) (.fieldAddr fld74x5 rfl)<|O.op (.p rfl) (.loadAt flat31 rfl (hb1.drop 5) rfl) ?_;refine O.op (.p rfl) (.len rfl underlying31 rfl)<|O.op (.p rfl) (.leq rfl rfl)<|O.sT 39 rfl (by exact decide_eq_true zC) ?_;refine O.q 1 rfl<|O.op (.g rfl rfl) (.fieldAddr fld74x4 rfl)<|O.op (.g rfl rfl) (.loadAt flat4 rfl (hb1.drop 4) rfl) ?_;refine O.sF 42 rfl (by exact g4) ?_;refine O.op (.g rfl rfl) (.not rfl)<|O.q 8 rfl<|O.nil ?_;exact S.rt results215 rfl hR ⟨by rw [hs],rfl⟩
 |true =>
  by_cases n6:x.2.2.2.2.2.1.length=0
  ·have hs:shaped x=true:=shaped_iff.2 ⟨c0,c1,c2,c3,c4,c5,fun _=>n6⟩
   refine S.region rfl<|O.op (.p rfl) (.fieldAddr fld74x1 rfl)<|O.op (.p rfl) (.loadAt flat3 rfl (hb1.drop 1) rfl) ?_;refine O.op (.p rfl) (.fieldAddr fld74x2 rfl)<|O.op (.p rfl) (.loadAt flat3 rfl (hb1.drop 2) rfl) ?_;refine O.op (.p rfl) (.build (cs:=[_,_]) underlying166 rfl rfl rfl rfl rfl)<|O.opE (.p rfl) (.alloc (cs:=[.int .i64 0,.int .i64 0]) zeroValue166 rfl) ?_;rintro _ _ ⟨b3,rfl,rfl⟩;refine O.opU rfl (.storeObj zD rfl rfl rfl rfl zB zK) ?_;refine O.nil<|S.seq<|S.seq<|S.frzO zB fun g hs hm hb3=>?_;replace hg:=Fr.sub_trans hg hs;replace hR:=melted hR hm
   try replace h:=h.mono hs
   try replace k3:=k3.mono hs
   try replace k5:=k5.mono hs
   try replace k6:=k6.mono hs
   try replace hb1:=hb1.mono hs
   clear hs hm;refine S.region rfl<|O.op (.p rfl) (.fieldAddr fld74x0 rfl)<|O.op (.p rfl) (.loadAt flat9 rfl hb1 rfl) ?_;refine O.op (.p rfl) (.lenS rfl underlying9 rfl)<|O.op (.p rfl) (.lss rfl rfl)<|O.sF 12 rfl (by exact decide_eq_false (by rw [hz0];omega)) ?_;refine O.q 1 rfl<|O.op (.g rfl rfl) (.fieldAddr fld74x0 rfl)<|O.op (.g rfl rfl) (.loadAt flat9 rfl hb1 rfl) ?_;refine O.op (.g rfl rfl) (.lenS rfl underlying9 rfl)<|O.op (.g rfl rfl) (.gtr rfl rfl)<|O.sF 17 rfl (by exact decide_eq_false (by rw [hz0];omega)) ?_;refine O.q 2 rfl<|O.op (.g rfl rfl) (.loadAgg isAgg166 zD rfl hb3) ?_;refine O.call0 (.g rfl rfl) rfl zD rfl rfl ((r7dot_c (rDot x) rfl)) ?_;rintro _ _ ⟨rfl,rfl⟩
   try simp only [zx1,zx2,zx3]
   refine O.sT 21 rfl (by exact c2) ?_;refine O.op (.g rfl rfl) (.not rfl)<|O.q 2 rfl<|O.op (.g rfl rfl) (.fieldAddr fld74x3 rfl)<|O.op (.g rfl rfl) (.loadAt flat72 rfl (hb1.drop 3) rfl) ?_;refine O.call0 (.g rfl rfl) rfl zD rfl rfl ((r7right_c k3)) ?_;rintro _ _ ⟨rfl,rfl⟩
   try simp only [zx1,zx2,zx3]
   refine O.sT 27 rfl (by exact c3) ?_;refine O.op (.g rfl rfl) (.not rfl)<|O.q 2 rfl<|O.op (.g rfl rfl) (.fieldAddr fld74x3 rfl)<|O.op (.g rfl rfl) (.loadAt flat72 rfl (hb1.drop 3) rfl) ?_;refine O.op (.g rfl rfl) (.loadAgg isAgg166 zD rfl hb3) ?_;refine O.call0 (.g rfl rfl) rfl zD rfl rfl ((r7has_c (rDot x) rfl k3)) ?_;rintro _ _ ⟨rfl,rfl⟩
   try simp only [zx1,zx2,zx3]
   refine O.sF 34 rfl (by exact c4) ?_;refine O.q 1 rfl<|O.nil<|S.condF rfl<|S.skip<|S.seq<|S.region rfl<|O.op (.p rfl) (.fieldAddr fld74x5 rfl)<|O.op (.p rfl) (.loadAt flat31 rfl (hb1.drop 5) rfl) ?_;refine O.op (.p rfl) (.len rfl underlying31 rfl)<|O.op (.p rfl) (.leq rfl rfl)<|O.sT 39 rfl (by exact decide_eq_true zC) ?_;refine O.q 1 rfl<|O.op (.g rfl rfl) (.fieldAddr fld74x4 rfl)<|O.op (.g rfl rfl) (.loadAt flat4 rfl (hb1.drop 4) rfl) ?_;refine O.sT 42 rfl (by exact g4) ?_;refine O.op (.g rfl rfl) (.not rfl)<|O.q 1 rfl<|O.op (.g rfl rfl) (.fieldAddr fld74x5 rfl)<|O.op (.g rfl rfl) (.loadAt flat31 rfl (hb1.drop 5) rfl) ?_;refine O.op (.g rfl rfl) (.len rfl underlying31 rfl)<|O.op (.g rfl rfl) (.eql rfl rfl)<|O.sT 48 rfl (by exact decide_eq_true zC) ?_;refine O.q 3 rfl<|O.nil ?_;exact S.rt results215 rfl hR ⟨by rw [hs],rfl⟩
  ·have hs:shaped x=false:=Bool.eq_false_iff.2 fun q=>n6 ((shaped_iff.1 q).2.2.2.2.2.2 g4)
   refine S.region rfl<|O.op (.p rfl) (.fieldAddr fld74x1 rfl)<|O.op (.p rfl) (.loadAt flat3 rfl (hb1.drop 1) rfl) ?_;refine O.op (.p rfl) (.fieldAddr fld74x2 rfl)<|O.op (.p rfl) (.loadAt flat3 rfl (hb1.drop 2) rfl) ?_;refine O.op (.p rfl) (.build (cs:=[_,_]) underlying166 rfl rfl rfl rfl rfl)<|O.opE (.p rfl) (.alloc (cs:=[.int .i64 0,.int .i64 0]) zeroValue166 rfl) ?_;rintro _ _ ⟨b3,rfl,rfl⟩;refine O.opU rfl (.storeObj zD rfl rfl rfl rfl zB zK) ?_;refine O.nil<|S.seq<|S.seq<|S.frzO zB fun g hs hm hb3=>?_;replace hg:=Fr.sub_trans hg hs;replace hR:=melted hR hm
   try replace h:=h.mono hs
   try replace k3:=k3.mono hs
   try replace k5:=k5.mono hs
   try replace k6:=k6.mono hs
   try replace hb1:=hb1.mono hs
   clear hs hm;refine S.region rfl<|O.op (.p rfl) (.fieldAddr fld74x0 rfl)<|O.op (.p rfl) (.loadAt flat9 rfl hb1 rfl) ?_;refine O.op (.p rfl) (.lenS rfl underlying9 rfl)<|O.op (.p rfl) (.lss rfl rfl)<|O.sF 12 rfl (by exact decide_eq_false (by rw [hz0];omega)) ?_;refine O.q 1 rfl<|O.op (.g rfl rfl) (.fieldAddr fld74x0 rfl)<|O.op (.g rfl rfl) (.loadAt flat9 rfl hb1 rfl) ?_;refine O.op (.g rfl rfl) (.lenS rfl underlying9 rfl)<|O.op (.g rfl rfl) (.gtr rfl rfl)<|O.sF 17 rfl (by exact decide_eq_false (by rw [hz0];omega)) ?_;refine O.q 2 rfl<|O.op (.g rfl rfl) (.loadAgg isAgg166 zD rfl hb3) ?_;refine O.call0 (.g rfl rfl) rfl zD rfl rfl ((r7dot_c (rDot x) rfl)) ?_;rintro _ _ ⟨rfl,rfl⟩
   try simp only [zx1,zx2,zx3]
   refine O.sT 21 rfl (by exact c2) ?_;refine O.op (.g rfl rfl) (.not rfl)<|O.q 2 rfl<|O.op (.g rfl rfl) (.fieldAddr fld74x3 rfl)<|O.op (.g rfl rfl) (.loadAt flat72 rfl (hb1.drop 3) rfl) ?_;refine O.call0 (.g rfl rfl) rfl zD rfl rfl ((r7right_c k3)) ?_;rintro _ _ ⟨rfl,rfl⟩
   try simp only [zx1,zx2,zx3]
   refine O.sT 27 rfl (by exact c3) ?_;refine O.op (.g rfl rfl) (.not rfl)<|O.q 2 rfl<|O.op (.g rfl rfl) (.fieldAddr fld74x3 rfl)<|O.op (.g rfl rfl) (.loadAt flat72 rfl (hb1.drop 3) rfl) ?_;refine O.op (.g rfl rfl) (.loadAgg isAgg166 zD rfl hb3) ?_;refine O.call0 (.g rfl rfl) rfl zD rfl rfl ((r7has_c (rDot x) rfl k3)) ?_;rintro _ _ ⟨rfl,rfl⟩
   try simp only [zx1,zx2,zx3]
   refine O.sF 34 rfl (by exact c4) ?_;refine O.q 1 rfl<|O.nil<|S.condF rfl<|S.skip<|S.seq<|S.region rfl<|O.op (.p rfl) (.fieldAddr fld74x5 rfl)<|O.op (.p rfl) (.loadAt flat31 rfl (hb1.drop 5) rfl) ?_;refine O.op (.p rfl) (.len rfl underlying31 rfl)<|O.op (.p rfl) (.leq rfl rfl)<|O.sT 39 rfl (by exact decide_eq_true zC) ?_;refine O.q 1 rfl<|O.op (.g rfl rfl) (.fieldAddr fld74x4 rfl)<|O.op (.g rfl rfl) (.loadAt flat4 rfl (hb1.drop 4) rfl) ?_;refine O.sT 42 rfl (by exact g4) ?_;refine O.op (.g rfl rfl) (.not rfl)<|O.q 1 rfl<|O.op (.g rfl rfl) (.fieldAddr fld74x5 rfl)<|O.op (.g rfl rfl) (.loadAt flat31 rfl (hb1.drop 5) rfl) ?_;refine O.op (.g rfl rfl) (.len rfl underlying31 rfl)<|O.op (.g rfl rfl) (.eql rfl rfl)<|O.sF 48 rfl (by exact decide_eq_false zC) ?_;refine O.q 3 rfl<|O.nil ?_;exact S.rt results215 rfl hR ⟨by rw [hs],rfl⟩
theorem r8right_c {r:Fr} {cs:List Value} {x:RecT} (h:RecRp.rel r cs x):Con prog 213 #[.agg cs.toArray] r [] (Ret fun v η=>v=.bool (recOk x)∧η=[]):=by
 obtain ⟨xa3,xa5,xa6,xc3,xc5,xc6,rfl,k0,k1,k2,k3,k5,k6⟩:=RecRp.sh h;have hz0:=str_size x.1;refine Con.of (n:=11) _ rfl func213 rfl rfl rfl fun g hg R hR=>?_;have h:=h.mono hg;have k3:=k3.mono hg;have k5:=k5.mono hg;have k6:=k6.mono hg;refine S.seq<|S.region rfl<|O.opE (.p rfl) (.box (cs:=[_,_,_,_,_,_,_]) rfl rfl) ?_;rintro _ _ ⟨b1,rfl,rfl⟩;refine O.q 1 rfl<|O.nil<|S.seq<|S.frzO zB fun g hs hm hb1=>?_;replace hg:=Fr.sub_trans hg hs;replace hR:=melted hR hm
 try replace h:=h.mono hs
 try replace k3:=k3.mono hs
 try replace k5:=k5.mono hs
 try replace k6:=k6.mono hs
 clear hs hm
 cases e:shaped x with
 |false =>
  refine S.region rfl<|O.op (.p rfl) (.loadAgg isAgg74 zD rfl hb1) ?_;refine O.call0 (.p rfl) rfl zD rfl rfl ((r8shape_c h)) ?_;rintro _ _ ⟨rfl,rfl⟩
  try simp only [zx1,zx2,zx3]
  refine O.sF 4 rfl (by exact e) ?_;refine O.q 7 rfl<|O.nil ?_;exact S.rt results213 rfl hR ⟨by simp [recOk,e],rfl⟩
 |true =>
  refine S.region rfl<|O.op (.p rfl) (.loadAgg isAgg74 zD rfl hb1) ?_;refine O.call0 (.p rfl) rfl zD rfl rfl ((r8shape_c h)) ?_;rintro _ _ ⟨rfl,rfl⟩
  try simp only [zx1,zx2,zx3]
  refine O.sT 4 rfl (by exact e) ?_;refine O.q 1 rfl<|O.op (.g rfl rfl) (.fieldAddr fld74x6 rfl)<|O.op (.g rfl rfl) (.loadAt flat31 rfl (hb1.drop 6) rfl) ?_;refine O.op (.g rfl rfl) (.len rfl underlying31 rfl)<|O.op (.g rfl rfl) (.eql rfl rfl)<|O.q 2 rfl<|O.nil ?_;exact S.rt results213 rfl hR ⟨congrArg _ (by rw [recOk,e,Bool.true_and];exact decide_eq_decide.2 zC),rfl⟩
theorem r8over_c {r:Fr} {cs ds:List Value} {x y:RecT} (h:RecRp.rel r cs x) (h' :RecRp.rel r ds y):Con prog 109 #[.agg cs.toArray,.agg ds.toArray] r [] (Ret fun v η=>v=.bool (over x y)∧η=[]):=by
 obtain ⟨xa3,xa5,xa6,xc3,xc5,xc6,rfl,k0,k1,k2,k3,k5,k6⟩:=RecRp.sh h;obtain ⟨ya3,ya5,ya6,yc3,yc5,yc6,rfl,j0,j1,j2,j3,j5,j6⟩:=RecRp.sh h';refine Con.of (n:=28) _ rfl func109 rfl rfl rfl fun g hg R hR=>?_;have h:=h.mono hg;have h' :=h'.mono hg;have k3:=k3.mono hg;refine S.seq<|S.region rfl<|O.opE (.p rfl) (.box (cs:=[_,_,_,_,_,_,_]) rfl rfl) ?_;rintro _ _ ⟨b2,rfl,rfl⟩;refine O.opE (.p rfl) (.box (cs:=[_,_,_,_,_,_,_]) rfl rfl) ?_;rintro _ _ ⟨b3,rfl,rfl⟩;refine O.q 1 rfl<|O.nil (S.seq ?_)
 cases e1:shaped x with
 |false =>
  refine S.region rfl<|O.op (.p rfl) (.loA (news:=[_,_,_,_,_,_,_]) isAgg74) ?_;refine O.call0 (.p rfl) rfl zD rfl rfl ((r8shape_c h)) ?_;rintro _ _ ⟨rfl,rfl⟩
  try simp only [zx1,zx2,zx3]
  refine O.sF 6 rfl (by exact e1) ?_;refine O.q 22 rfl<|O.nil ?_;exact S.rt results109 rfl hR ⟨by simp [over,e1],rfl⟩
 |true =>
  cases e2:shaped y with
  |false =>
   refine S.region rfl<|O.op (.p rfl) (.loA (news:=[_,_,_,_,_,_,_]) isAgg74) ?_;refine O.call0 (.p rfl) rfl zD rfl rfl ((r8shape_c h)) ?_;rintro _ _ ⟨rfl,rfl⟩
   try simp only [zx1,zx2,zx3]
   refine O.sT 6 rfl (by exact e1) ?_;refine O.q 1 rfl<|O.op (.g rfl rfl) (.loA (news:=[_,_,_,_,_,_,_]) isAgg74) ?_;refine O.call0 (.g rfl rfl) rfl zD rfl rfl ((r8shape_c h')) ?_;rintro _ _ ⟨rfl,rfl⟩
   try simp only [zx1,zx2,zx3]
   refine O.sF 9 rfl (by exact e2) ?_;refine O.q 19 rfl<|O.nil ?_;exact S.rt results109 rfl hR ⟨by simp [over,e2],rfl⟩
  |true =>
   by_cases e3:x.1=y.1
   ·
    refine S.region rfl<|O.op (.p rfl) (.loA (news:=[_,_,_,_,_,_,_]) isAgg74) ?_;refine O.call0 (.p rfl) rfl zD rfl rfl ((r8shape_c h)) ?_;rintro _ _ ⟨rfl,rfl⟩
    try simp only [zx1,zx2,zx3]
    refine O.sT 6 rfl (by exact e1) ?_;refine O.q 1 rfl<|O.op (.g rfl rfl) (.loA (news:=[_,_,_,_,_,_,_]) isAgg74) ?_;refine O.call0 (.g rfl rfl) rfl zD rfl rfl ((r8shape_c h')) ?_;rintro _ _ ⟨rfl,rfl⟩
    try simp only [zx1,zx2,zx3]
    refine O.sT 9 rfl (by exact e2) ?_;refine O.q 2 rfl<|O.op (.g rfl rfl) (.fieldObj fld74x0 rfl)<|O.op (.g rfl rfl) (.lo flat9) ?_;refine O.op (.g rfl rfl) (.fieldObj fld74x0 rfl)<|O.op (.g rfl rfl) (.lo flat9) ?_;refine O.op (.g rfl rfl) (.eqlS rfl rfl)<|O.sT 16 rfl (by simp [e3]) ?_;refine O.q 2 rfl<|O.op (.g rfl rfl) (.fieldObj fld74x3 rfl)<|O.op (.g rfl rfl) (.lo flat72) ?_;refine O.op (.g rfl rfl) (.fieldObj fld74x1 rfl)<|O.op (.g rfl rfl) (.lo flat3) ?_;refine O.op (.g rfl rfl) (.fieldObj fld74x2 rfl)<|O.op (.g rfl rfl) (.lo flat3) ?_;refine O.op (.g rfl rfl) (.build (cs:=[_,_]) underlying166 rfl rfl rfl rfl rfl)<|O.call0 (.g rfl rfl) rfl zD rfl rfl ((r7has_c (rDot y) rfl k3)) ?_;rintro _ _ ⟨rfl,rfl⟩
    try simp only [zx1,zx2,zx3]
    refine O.q 2 rfl<|O.nil ?_;exact S.rt results109 rfl hR ⟨by simp [over,e1,e2,e3],rfl⟩
   ·
    refine S.region rfl<|O.op (.p rfl) (.loA (news:=[_,_,_,_,_,_,_]) isAgg74) ?_;refine O.call0 (.p rfl) rfl zD rfl rfl ((r8shape_c h)) ?_;rintro _ _ ⟨rfl,rfl⟩
    try simp only [zx1,zx2,zx3]
    refine O.sT 6 rfl (by exact e1) ?_;refine O.q 1 rfl<|O.op (.g rfl rfl) (.loA (news:=[_,_,_,_,_,_,_]) isAgg74) ?_;refine O.call0 (.g rfl rfl) rfl zD rfl rfl ((r8shape_c h')) ?_;rintro _ _ ⟨rfl,rfl⟩
    try simp only [zx1,zx2,zx3]
    refine O.sT 9 rfl (by exact e2) ?_;refine O.q 2 rfl<|O.op (.g rfl rfl) (.fieldObj fld74x0 rfl)<|O.op (.g rfl rfl) (.lo flat9) ?_;refine O.op (.g rfl rfl) (.fieldObj fld74x0 rfl)<|O.op (.g rfl rfl) (.lo flat9) ?_;refine O.op (.g rfl rfl) (.eqlS rfl rfl)<|O.sF 16 rfl (by simp [e3]) ?_;refine O.q 12 rfl<|O.nil ?_;exact S.rt results109 rfl hR ⟨by simp [over,e3],rfl⟩
def recZ:RecT:=([],0,0,[],false,[],[],())
noncomputable def recO (b:List UInt8):RecT:=(recGet b).getD recZ
noncomputable def recE (b:List UInt8):Int:=if (recGet b).isSome then 0 else 4
theorem r8get_c {r:Fr} {va:Value} {b:List UInt8} (ha:Arr Rp.u8 r va b) (hl:b.length≤1000000000) :
  Con prog 135 #[va] r [] (Ret fun v η=>∃ a3 c3 a5 c5 a6 c6,v=.tuple #[.agg (recV (recO b) (.slice a3 (recO b).2.2.2.1.length c3) (.slice a5 (recO b).2.2.2.2.2.1.length c5) (.slice a6 (recO b).2.2.2.2.2.2.1.length c6)).toArray,.int .i64 (recE b)]∧η=recWs (recO b) (.slice a3 (recO b).2.2.2.1.length c3) (.slice a5 (recO b).2.2.2.2.2.1.length c5) (.slice a6 (recO b).2.2.2.2.2.2.1.length c6)):=by
 refine Con.of (n:=87) _ rfl func135 rfl rfl rfl fun g hg R hR=>?_;have ha:=ha.mono hg;have hbd:=ha.bound;obtain ⟨a1,c1,rfl⟩:=ha.shape;refine S.seq<|S.region rfl<|O.opE (.p rfl) (.alloc (cs:=[.string ⟨#[]⟩,.int .i64 0,.int .i64 0,.slice none 0 0,.bool false,.slice none 0 0,.slice none 0 0]) zeroValue74 rfl) ?_;rintro _ _ ⟨b2,rfl,rfl⟩;refine O.q 1 rfl<|O.nil<|S.seq<|S.region rfl<|O.q 1 rfl<|O.call0 (.p rfl) rfl zD rfl rfl (rfNew_c (by first|assumption|exact Arr.mono hg zE|exact Arr.left zE|exact Arr.left (Arr.mono hg zE)) zL) ?_;rintro _ _ ⟨b16,rfl,rfl⟩
 try simp only [zx1,zx2,zx3]
 refine O.q 1 rfl<|O.nil<|S.seq<|S.region rfl<|O.opE (.p rfl) (.alloc (cs:=[.string ⟨#[]⟩,.int .i64 0,.int .i64 0,.slice none 0 0,.bool false,.slice none 0 0,.slice none 0 0]) zeroValue74 rfl) ?_;rintro _ _ ⟨b5,rfl,rfl⟩;refine O.nil<|S.seq<|S.region rfl<|O.q 1 rfl<|O.callS (.p rfl) rfl zD rfl rfl zB rfByte_c ?_;rintro _ _ ⟨rfl,rfl⟩
 try simp only [zx1,zx2,zx3]
 refine O.q 1 rfl<|O.nil (S.seq ?_);generalize hk:(RS.mk true b).byte=k;have lk:k.2.rest.length≤1000000000:=by rw [← hk];exact Nat.le_trans (RS.byte_len _) hl
 have ly:=RS.bytes_out 64 k.2;refine S.region rfl<|O.q 1 rfl<|O.callS (.p rfl) rfl zD rfl rfl zB (rfBytes_c _) ?_;rintro _ _ ⟨a20,c20,rfl,rfl⟩
 try simp only [zx1,zx2,zx3]
 refine O.q 1 rfl<|O.nil<|S.seq<|S.region rfl<|O.q 1 rfl<|O.toStrO (.p rfl) underlying31 underlying5 underlying9 rfl zB ?_;refine O.op (.p rfl) (.fieldObj fld74x0 rfl)<|O.opU rfl (.store1 flat9 rfl rfl zO zB zK) ?_;refine O.nil (S.seq ?_);generalize hy:k.2.bytes 64=y at ly ⊢;have ly2:y.2.rest.length≤1000000000:=by rw [← hy];exact Nat.le_trans (RS.bytes_len _ _) lk
 refine S.region rfl<|O.q 1 rfl<|O.callS (.p rfl) rfl zD rfl rfl zB rfNumber_c ?_;rintro _ _ ⟨rfl,rfl⟩
 try simp only [zx1,zx2,zx3]
 refine O.op (.p rfl) (.fieldObj fld74x1 rfl)<|O.opU rfl (.store1 flat3 rfl rfl zO zB zK) ?_;refine O.nil (S.seq ?_);generalize hc:y.2.num=c;have lc:c.2.rest.length≤1000000000:=by rw [← hc];exact Nat.le_trans (RS.num_len _) ly2
 have ic:InI64 c.1:=by rw [← hc];exact RS.num_in _
 refine S.region rfl<|O.q 1 rfl<|O.callS (.p rfl) rfl zD rfl rfl zB rfNumber_c ?_;rintro _ _ ⟨rfl,rfl⟩
 try simp only [zx1,zx2,zx3]
 refine O.op (.p rfl) (.fieldObj fld74x2 rfl)<|O.opU rfl (.store1 flat3 rfl rfl zO zB zK) ?_;refine O.nil (S.seq ?_);generalize hq:c.2.num=q;have lq:q.2.rest.length≤1000000000:=by rw [← hq];exact Nat.le_trans (RS.num_len _) lc
 have iq:InI64 q.1:=by rw [← hq];exact RS.num_in _
 refine S.region rfl<|O.q 1 rfl<|O.callS (.p rfl) rfl zD rfl rfl zB (rfCount_c _) ?_;rintro _ _ ⟨rfl,rfl⟩
 try simp only [zx1,zx2,zx3]
 refine O.q 1 rfl<|O.nil (S.seq (S.seq ?_));generalize hn:q.2.count 8=n;have ln:n.2.rest.length≤1000000000:=by rw [← hn];exact Nat.le_trans (RS.count_len _ _) lq
 obtain ⟨n0,n8⟩:0≤n.1∧n.1≤8:=by rw [← hn];exact RS.count_bd _ _ zF
 refine S.objIs (b:=b5) (cs' :=[.string (str y.1),.int .i64 c.1,.int .i64 q.1,.slice none 0 0,.bool false,.slice none 0 0,.slice none 0 0]) zB rfl ?_;refine S.addNil (T:=DotRp) (e:=166) ?_;refine S.region rfl<|O.q 1 rfl<|O.nil<|S.block<|S.keep [OwnP DotRp 166 (.slice none 0 0) [],RfP 254 b16 n.2,obj b5 74 [.string (str y.1),.int .i64 c.1,.int .i64 q.1,.slice none 0 0,.bool false,.slice none 0 0,.slice none 0 0],obj b2 74 rec0] zT ?_;refine S.loopK2 (ι:=Nat) (κ:=Option Addr × Nat) (fun i a=>i≤n.1.toNat) (fun i a=>[(9,.int .i64 (i:Int))]) [(2,_),(4,_),(5,_),(6,_),(8,_)] (fun i a=>[OwnP DotRp 166 (.slice a.1 i a.2) (dotsP i n.2).1,RfP 254 b16 (dotsP i n.2).2,obj b5 74 [.string (str y.1),.int .i64 c.1,.int .i64 q.1,.slice a.1 i a.2,.bool false,.slice none 0 0,.slice none 0 0],obj b2 74 rec0]) (fun i a=>n.1.toNat - i) (0) ((none,0)) zG (.cons rfl (.nil)) (.cons rfl (.cons rfl (.cons rfl (.cons rfl (.cons rfl (.nil)))))) rfl fun i a hx ih=>?_;have hm1:=meltRefl (g:=g);refine S.seq<|S.seq<|S.region rfl<|O.q 2 rfl<|O.op (.p rfl) (.lss rfl rfl)<|O.nil ?_
 first|refine S.condD rfl (fun h34=>?_) (fun h34=>?_)|refine S.condB rfl (fun h34=>?_) (fun h34=>?_)
 ·have hi:i<n.1.toNat:=by omega
  refine S.skip<|S.seq<|S.block<|S.seq<|S.region rfl<|O.q 1 rfl<|O.callS (.p rfl) rfl zD rfl rfl zB rfNumber_c ?_;rintro _ _ ⟨rfl,rfl⟩
  try simp only [zx1,zx2,zx3]
  refine O.q 1 rfl<|O.nil<|S.seq<|S.region rfl<|O.q 1 rfl<|O.callS (.p rfl) rfl zD rfl rfl zB rfNumber_c ?_;rintro _ _ ⟨rfl,rfl⟩
  try simp only [zx1,zx2,zx3]
  refine O.q 1 rfl<|O.nil<|S.region rfl<|O.op (.p rfl) (.fieldObj fld74x3 rfl)<|O.op (.p rfl) (.lo flat72) ?_;refine O.q 2 rfl<|O.op (.p rfl) (.build (cs:=[_,_]) underlying166 rfl rfl rfl rfl rfl)<|O.opE (.p rfl) (.litP (T:=DotRp) (ys:=[_]) underlying72 elem166 zF rfl rfl ⟨(DotRp.mk (RS.num_in _) (RS.num_in _)),trivial⟩ zF) ?_;rintro _ _ ⟨a46,c46,rfl,rfl⟩;refine O.opE (.p rfl) (.appendO (T:=DotRp) underlying72 elem166 zF rfl rfl zB zB zL zL) ?_;rintro _ _ ⟨a47,c47,rfl,rfl⟩;refine O.op (.p rfl) (.fieldObj fld74x3 rfl)<|O.opU rfl (.store1 flat72 rfl rfl zO zB zK) ?_;refine O.nil<|S.inBlock<|S.region rfl<|O.q 1 rfl<|O.op (.p rfl) (.add rfl rfl (IntWalk.i64_in _ zC))<|O.q 1 rfl<|O.nil ?_;simp only [dotsP_length,List.length_singleton];exact S.pw (ih (i+1) ((a47,c47)) zC zC)
 ·clear ih
  have hi:i=n.1.toNat:=by omega
  subst hi;generalize hd:dotsP n.1.toNat n.2=d;have ld:d.2.rest.length≤1000000000:=by rw [← hd];exact Nat.le_trans (dotsP_len _ _) ln
  have ldn:d.1.length=n.1.toNat:=by rw [← hd];exact dotsP_length _ _
  rw [← ldn];obtain ⟨ad,had⟩:∃ ad,a=ad:=⟨_,rfl⟩;subst had;refine S.exit rfl<|S.seq<|S.region rfl<|O.q 1 rfl<|O.callS (.p rfl) rfl zD rfl rfl zB rfByte_c ?_;rintro _ _ ⟨rfl,rfl⟩
  try simp only [zx1,zx2,zx3]
  refine O.q 1 rfl<|O.nil (S.seq ?_);generalize hg2:d.2.byte=g2;have lg2:g2.2.rest.length≤1000000000:=by rw [← hg2];exact Nat.le_trans (RS.byte_len _) ld
  refine S.region rfl<|O.q 1 rfl<|O.op (.p rfl) (.eql rfl rfl)<|O.slot 52 (v' :=.bool (decide (g2.1=1))) rfl (by (simp [← UInt8.toNat_inj];omega)) ?_;refine O.op (.p rfl) (.fieldObj fld74x4 rfl)<|O.opU rfl (.store1 flat4 rfl rfl zO zB zK) ?_;refine O.nil<|S.seq<|S.region rfl<|O.q 1 rfl<|O.callS (.p rfl) rfl zD rfl rfl zB (rfBytes_c _) ?_;rintro _ _ ⟨a55,c55,rfl,rfl⟩
  try simp only [zx1,zx2,zx3]
  refine O.op (.p rfl) (.fieldObj fld74x5 rfl)<|O.opU rfl (.store1 flat31 rfl rfl zO zB zK) ?_;refine O.nil (S.seq (S.seq ?_));generalize hv:g2.2.bytes 1024=v;have lv:v.2.rest.length≤1000000000:=by rw [← hv];exact Nat.le_trans (RS.bytes_len _ _) lg2
  refine S.objIs (b:=b5) (cs' :=[.string (str y.1),.int .i64 c.1,.int .i64 q.1,.slice a.1 d.1.length a.2,.bool (decide (g2.1=1)),.slice a55 v.1.length c55,.slice none 0 0]) zB rfl ?_;refine S.addNil (T:=Rp.u8) (e:=5) ?_;generalize had:a=ad;refine S.region rfl<|O.q 1 rfl<|O.nil<|S.block<|S.keep [OwnP Rp.u8 5 (.slice none 0 0) [],RfP 254 b16 v.2,obj b5 74 [.string (str y.1),.int .i64 c.1,.int .i64 q.1,.slice ad.1 d.1.length ad.2,.bool (decide (g2.1=1)),.slice a55 v.1.length c55,.slice none 0 0],OwnP DotRp 166 (.slice ad.1 d.1.length ad.2) d.1,OwnP Rp.u8 5 (.slice a55 v.1.length c55) v.1,obj b2 74 rec0] zT ?_;refine S.loopK2 (ι:=Nat) (κ:=Option Addr × Nat) (fun i a=>i≤64) (fun i a=>[(13,.int .i64 (i:Int))]) [(2,_),(4,_),(5,_),(6,_),(12,_)] (fun i a=>[OwnP Rp.u8 5 (.slice a.1 i a.2) (byteP i v.2).1,RfP 254 b16 (byteP i v.2).2,obj b5 74 [.string (str y.1),.int .i64 c.1,.int .i64 q.1,.slice ad.1 d.1.length ad.2,.bool (decide (g2.1=1)),.slice a55 v.1.length c55,.slice a.1 i a.2],OwnP DotRp 166 (.slice ad.1 d.1.length ad.2) d.1,OwnP Rp.u8 5 (.slice a55 v.1.length c55) v.1,obj b2 74 rec0]) (fun i a=>64 - i) (0) ((none,0)) zG (.cons rfl (.nil)) (.cons rfl (.cons rfl (.cons rfl (.cons rfl (.cons rfl (.nil)))))) rfl fun i a hx ih=>?_;have hm2:=meltRefl (g:=g);refine S.seq<|S.seq<|S.region rfl<|O.q 1 rfl<|O.op (.p rfl) (.lss rfl rfl)<|O.nil ?_
  first|refine S.condD rfl (fun h58=>?_) (fun h58=>?_)|refine S.condB rfl (fun h58=>?_) (fun h58=>?_)
  ·have hi:i<64:=by omega
   refine S.skip<|S.seq<|S.block<|S.seq<|S.region rfl<|O.q 1 rfl<|O.callS (.p rfl) rfl zD rfl rfl zB rfByte_c ?_;rintro _ _ ⟨rfl,rfl⟩
   try simp only [zx1,zx2,zx3]
   refine O.q 1 rfl<|O.nil<|S.region rfl<|O.op (.p rfl) (.fieldObj fld74x6 rfl)<|O.op (.p rfl) (.lo flat31) ?_;refine O.q 1 rfl<|O.opE (.p rfl) (.litP (T:=Rp.u8) (ys:=[_]) underlying31 elem5 zF rfl rfl ⟨rfl,trivial⟩ zF) ?_;rintro _ _ ⟨a66,c66,rfl,rfl⟩;refine O.opE (.p rfl) (.appendO (T:=Rp.u8) underlying31 elem5 zF rfl rfl zB zB zL zL) ?_;rintro _ _ ⟨a67,c67,rfl,rfl⟩;refine O.op (.p rfl) (.fieldObj fld74x6 rfl)<|O.opU rfl (.store1 flat31 rfl rfl zO zB zK) ?_;refine O.nil<|S.inBlock<|S.region rfl<|O.q 1 rfl<|O.op (.p rfl) (.add rfl rfl (IntWalk.i64_in _ zC))<|O.q 1 rfl<|O.nil ?_;simp only [byteP_length,List.length_singleton];exact S.pw (ih (i+1) ((a67,c67)) zC zC)
  ·clear ih
   have hi:i=64:=by omega
   subst hi;generalize hs:byteP 64 v.2=s;have lsn:s.1.length=64:=by rw [← hs];exact byteP_length _ _
   rw [← lsn];have hX:recIn2 b=(y.1,c.1,q.1,d.1,decide (g2.1=1),v.1,s.1,()):=by subst hs hv hg2 hd hn hq hc hy hk;rfl
   have hS:(recQ2 b).2=s.2:=by subst hs hv hg2 hd hn hq hc hy hk;rfl
   have hK:(recQ b).kind=k.1:=by subst hs hv hg2 hd hn hq hc hy hk;rfl
   have hG:(recQ b).gone=g2.1:=by subst hs hv hg2 hd hn hq hc hy hk;rfl
   have hyes:=recGet_yes2 (b:=b);have hno:=recGet_no2 (b:=b);rw [hX,hS,hK,hG] at hyes hno;have hrel:∀ {m:Fr} (v3 v5 v6:Value),Arr DotRp m v3 d.1→Arr Rp.u8 m v5 v.1→Arr Rp.u8 m v6 s.1→RecRp.rel m [.string (str y.1),.int .i64 c.1,.int .i64 q.1,v3,.bool (decide (g2.1=1)),v5,v6] (y.1,c.1,q.1,d.1,decide (g2.1=1),v.1,s.1,()):=fun v3 v5 v6 h3 h5 h6=>RecRp.mk zC ic iq h3 h5 h6;generalize hXX:((y.1,c.1,q.1,d.1,decide (g2.1=1),v.1,s.1,()):RecT)=X at hyes hno hrel
   cases e0:s.2.done with
   |false =>
    have g1:recGet b=none:=hno fun q=>by rw [e0] at q;exact absurd q.1 zF
    have o1:recO b=recZ:=by simp [recO,g1]
    have o2:recE b=4:=by simp [recE,g1]
    refine S.addNil (T:=DotRp) (e:=166) ?_;refine S.addNil (T:=Rp.u8) (e:=5) ?_;refine S.addNil (T:=Rp.u8) (e:=5) ?_;refine S.exit rfl<|S.seq<|S.seq<|S.region rfl<|O.q 1 rfl<|O.callS (.p rfl) rfl zD rfl rfl zB rfDone_c ?_;rintro _ _ ⟨rfl,rfl⟩
    try simp only [zx1,zx2,zx3]
    refine O.sF 70 rfl (by exact e0) ?_;refine O.op (.p rfl) (.not rfl)<|O.q 13 rfl<|O.nil<|S.condT rfl<|S.seq<|S.region rfl<|O.op (.p rfl) (.build (cs:=[_,_,_,_,_,_,_]) underlying74 rfl rfl rfl rfl rfl)<|O.opU rfl (.storeObj zD rfl rfl rfl rfl zB zK) ?_;refine O.q 1 rfl<|O.nil<|S.retCellT results135 rfl rfl zB (LoadsAs.agg isAgg74 zD) fun w hw=>Holds.end_ hR hw ?_;exact ⟨_,⟨none,0,none,0,none,0,by rw [o1,o2];rfl,rfl⟩,by rw [o1];exact by repeat (first|exact zpa|exact zpn|(apply zpc;focus (repeat (first|exact zh|apply zt)))|apply zps)⟩
   |true =>
    by_cases e1:k.1=1
    ·by_cases e2:1<g2.1.toNat
     ·skip
      have g1:recGet b=none:=hno fun q=>q.2.2.1 e2;have o1:recO b=recZ:=by simp [recO,g1]
      have o2:recE b=4:=by simp [recE,g1]
      refine S.addNil (T:=DotRp) (e:=166) ?_;refine S.addNil (T:=Rp.u8) (e:=5) ?_;refine S.addNil (T:=Rp.u8) (e:=5) ?_;refine S.exit rfl<|S.seq<|S.seq<|S.region rfl<|O.q 1 rfl<|O.callS (.p rfl) rfl zD rfl rfl zB rfDone_c ?_;rintro _ _ ⟨rfl,rfl⟩
      try simp only [zx1,zx2,zx3]
      refine O.sT 70 rfl (by exact e0) ?_;refine O.op (.p rfl) (.not rfl)<|O.q 2 rfl<|O.op (.g rfl rfl) (.neq rfl rfl)<|O.sF 74 rfl (by simp [e1]) ?_;refine O.q 3 rfl<|O.op (.g rfl rfl) (.gtr rfl rfl)<|O.sT 78 rfl zI ?_;refine O.q 6 rfl<|O.nil<|S.condT rfl<|S.seq<|S.region rfl<|O.op (.p rfl) (.build (cs:=[_,_,_,_,_,_,_]) underlying74 rfl rfl rfl rfl rfl)<|O.opU rfl (.storeObj zD rfl rfl rfl rfl zB zK) ?_;refine O.q 1 rfl<|O.nil<|S.retCellT results135 rfl rfl zB (LoadsAs.agg isAgg74 zD) fun w hw=>Holds.end_ hR hw ?_;exact ⟨_,⟨none,0,none,0,none,0,by rw [o1,o2];rfl,rfl⟩,by rw [o1];exact by repeat (first|exact zpa|exact zpn|(apply zpc;focus (repeat (first|exact zh|apply zt)))|apply zps)⟩
     ·cases e3:recOk X with
      |false =>
       have g1:recGet b=none:=hno fun q=>by rw [e3] at q;exact absurd q.2.2.2 zF
       have o1:recO b=recZ:=by simp [recO,g1]
       have o2:recE b=4:=by simp [recE,g1]
       refine S.addNil (T:=DotRp) (e:=166) ?_;refine S.addNil (T:=Rp.u8) (e:=5) ?_;refine S.addNil (T:=Rp.u8) (e:=5) ?_;refine S.exit rfl<|S.seq<|S.seq<|S.region rfl<|O.q 1 rfl<|O.callS (.p rfl) rfl zD rfl rfl zB rfDone_c ?_;rintro _ _ ⟨rfl,rfl⟩
       try simp only [zx1,zx2,zx3]
       refine O.sT 70 rfl (by exact e0) ?_;refine O.op (.p rfl) (.not rfl)<|O.q 2 rfl<|O.op (.g rfl rfl) (.neq rfl rfl)<|O.sF 74 rfl (by simp [e1]) ?_;refine O.q 3 rfl<|O.op (.g rfl rfl) (.gtr rfl rfl)<|O.sF 78 rfl zI ?_;refine O.q 2 rfl<|O.op (.g rfl rfl) (.loA (news:=[_,_,_,_,_,_,_]) isAgg74) ?_;refine O.callB (.g rfl rfl) rfl zD rfl rfl (bs:=[OwnP DotRp 166 (.slice ad.1 d.1.length ad.2) d.1,OwnP Rp.u8 5 (.slice a55 v.1.length c55) v.1,OwnP Rp.u8 5 (.slice a.1 s.1.length a.2) s.1]) zN (fun m hm hd' =>r8right_c (x:=X) (hrel _ _ _ (hm.arr.right hd') (hm.tail.arr.right hd') (hm.tail.tail.arr.right hd'))) ?_;rintro _ _ ⟨rfl,rfl⟩
       try simp only [zx1,zx2,zx3]
       refine O.sF 82 rfl (by exact e3) ?_;refine O.op (.g rfl rfl) (.not rfl)<|O.q 1 rfl<|O.nil<|S.condT rfl<|S.seq<|S.region rfl<|O.op (.p rfl) (.build (cs:=[_,_,_,_,_,_,_]) underlying74 rfl rfl rfl rfl rfl)<|O.opU rfl (.storeObj zD rfl rfl rfl rfl zB zK) ?_;refine O.q 1 rfl<|O.nil<|S.retCellT results135 rfl rfl zB (LoadsAs.agg isAgg74 zD) fun w hw=>Holds.end_ hR hw ?_;exact ⟨_,⟨none,0,none,0,none,0,by rw [o1,o2];rfl,rfl⟩,by rw [o1];exact by repeat (first|exact zpa|exact zpn|(apply zpc;focus (repeat (first|exact zh|apply zt)))|apply zps)⟩
      |true =>
       have g1:=hyes e0 e1 e2 e3;subst hXX;have o1:recO b=(y.1,c.1,q.1,d.1,decide (g2.1=1),v.1,s.1,()):=by simp [recO,g1]
       have o2:recE b=0:=by simp [recE,g1]
       refine S.exit rfl<|S.seq<|S.seq<|S.region rfl<|O.q 1 rfl<|O.callS (.p rfl) rfl zD rfl rfl zB rfDone_c ?_;rintro _ _ ⟨rfl,rfl⟩
       try simp only [zx1,zx2,zx3]
       refine O.sT 70 rfl (by exact e0) ?_;refine O.op (.p rfl) (.not rfl)<|O.q 2 rfl<|O.op (.g rfl rfl) (.neq rfl rfl)<|O.sF 74 rfl (by simp [e1]) ?_;refine O.q 3 rfl<|O.op (.g rfl rfl) (.gtr rfl rfl)<|O.sF 78 rfl zI ?_;refine O.q 2 rfl<|O.op (.g rfl rfl) (.loA (news:=[_,_,_,_,_,_,_]) isAgg74) ?_;refine O.callB (.g rfl rfl) rfl zD rfl rfl (bs:=[OwnP DotRp 166 (.slice ad.1 d.1.length ad.2) d.1,OwnP Rp.u8 5 (.slice a55 v.1.length c55) v.1,OwnP Rp.u8 5 (.slice a.1 s.1.length a.2) s.1]) zN (fun m hm hd' =>r8right_c (hrel _ _ _ (hm.arr.right hd') (hm.tail.arr.right hd') (hm.tail.tail.arr.right hd'))) ?_;rintro _ _ ⟨rfl,rfl⟩
       try simp only [zx1,zx2,zx3]
       refine O.sT 82 rfl (by exact e3) ?_;refine O.op (.g rfl rfl) (.not rfl)<|O.q 1 rfl<|O.nil<|S.condF rfl<|S.skip<|S.seq<|S.region rfl<|O.op (.p rfl) (.loA (news:=[_,_,_,_,_,_,_]) isAgg74) ?_;refine O.opU rfl (.storeObj zD rfl rfl rfl rfl zB zK) ?_;refine O.q 1 rfl<|O.nil<|S.retCellT results135 rfl rfl zB (LoadsAs.agg isAgg74 zD) fun w hw=>Holds.end_ hR hw ?_;exact ⟨_,⟨ad.1,ad.2,a55,c55,a.1,a.2,by rw [o1,o2];rfl,rfl⟩,by rw [o1];exact by repeat (first|exact zpa|exact zpn|(apply zpc;focus (repeat (first|exact zh|apply zt)))|apply zps)⟩
    ·skip
     have g1:recGet b=none:=hno fun q=>e1 q.2.1;have o1:recO b=recZ:=by simp [recO,g1]
     have o2:recE b=4:=by simp [recE,g1]
     refine S.addNil (T:=DotRp) (e:=166) ?_;refine S.addNil (T:=Rp.u8) (e:=5) ?_;refine S.addNil (T:=Rp.u8) (e:=5) ?_;refine S.exit rfl<|S.seq<|S.seq<|S.region rfl<|O.q 1 rfl<|O.callS (.p rfl) rfl zD rfl rfl zB rfDone_c ?_;rintro _ _ ⟨rfl,rfl⟩
     try simp only [zx1,zx2,zx3]
     refine O.sT 70 rfl (by exact e0) ?_;refine O.op (.p rfl) (.not rfl)<|O.q 2 rfl<|O.op (.g rfl rfl) (.neq rfl rfl)<|O.sT 74 rfl (by simp;intro q;exact e1 (UInt8.toNat.inj (by have:(1:UInt8).toNat=1:=rfl;omega))) ?_;refine O.q 10 rfl<|O.nil<|S.condT rfl<|S.seq<|S.region rfl<|O.op (.p rfl) (.build (cs:=[_,_,_,_,_,_,_]) underlying74 rfl rfl rfl rfl rfl)<|O.opU rfl (.storeObj zD rfl rfl rfl rfl zB zK) ?_;refine O.q 1 rfl<|O.nil<|S.retCellT results135 rfl rfl zB (LoadsAs.agg isAgg74 zD) fun w hw=>Holds.end_ hR hw ?_;exact ⟨_,⟨none,0,none,0,none,0,by rw [o1,o2];rfl,rfl⟩,by rw [o1];exact by repeat (first|exact zpa|exact zpn|(apply zpc;focus (repeat (first|exact zh|apply zt)))|apply zps)⟩
theorem r9ahead_c {r:Fr} {cs ds:List Value} {x y:RecT} (h:RecRp.rel r cs x) (h' :RecRp.rel r ds y):Con prog 110 #[.agg cs.toArray,.agg ds.toArray] r [] (Ret fun v η=>v=.bool (decide (cmpR x y<0))∧η=[]):=by
 obtain ⟨xa3,xa5,xa6,xc3,xc5,xc6,rfl,k0,k1,k2,k3,k5,k6⟩:=RecRp.sh h;obtain ⟨ya3,ya5,ya6,yc3,yc5,yc6,rfl,j0,j1,j2,j3,j5,j6⟩:=RecRp.sh h';have hc:=cmpR_lt (a:=x) (b:=y);refine Con.of (n:=24) _ rfl func110 rfl rfl rfl fun g hg R hR=>?_;refine S.seq<|S.region rfl<|O.opE (.p rfl) (.box (cs:=[_,_,_,_,_,_,_]) rfl rfl) ?_;rintro _ _ ⟨b2,rfl,rfl⟩;refine O.opE (.p rfl) (.box (cs:=[_,_,_,_,_,_,_]) rfl rfl) ?_;rintro _ _ ⟨b3,rfl,rfl⟩;refine O.q 1 rfl<|O.nil<|S.seq<|S.region rfl<|O.op (.p rfl) (.fieldObj fld74x1 rfl)<|O.op (.p rfl) (.lo flat3) ?_;refine O.op (.p rfl) (.fieldObj fld74x1 rfl)<|O.op (.p rfl) (.lo flat3) ?_;refine O.op (.p rfl) (.lss rfl rfl)<|O.q 1 rfl ?_
 first|refine O.caseD 10 rfl (fun h10=>?_) (fun h10=>?_)|refine O.caseB 10 rfl (fun h10=>?_) (fun h10=>?_)
 ·refine O.q 14 rfl<|O.nil<|S.ret results110 rfl fun w hw=>Holds.end_ hR hw ?_
  first|exact ⟨_,⟨congrArg _ (decide_eq_true (hc.2 zC)).symm,rfl⟩,by repeat (first|exact zpa|exact zpn|(apply zpc;focus (repeat (first|exact zh|apply zt)))|apply zps)⟩|exact ⟨_,⟨congrArg _ (decide_eq_false (fun q=>absurd (hc.1 q) zC)).symm,rfl⟩,by repeat (first|exact zpa|exact zpn|(apply zpc;focus (repeat (first|exact zh|apply zt)))|apply zps)⟩|exact ⟨_,⟨congrArg _ (decide_eq_decide.2 (by rw [hc];omega)),rfl⟩,by repeat (first|exact zpa|exact zpn|(apply zpc;focus (repeat (first|exact zh|apply zt)))|apply zps)⟩
 ·refine O.op (.g rfl rfl) (.fieldObj fld74x1 rfl)<|O.op (.g rfl rfl) (.lo flat3) ?_
  refine O.op (.g rfl rfl) (.fieldObj fld74x1 rfl)<|O.op (.g rfl rfl) (.lo flat3) ?_;refine O.op (.g rfl rfl) (.eql rfl rfl)<|O.q 1 rfl ?_
  first|refine O.caseD 16 rfl (fun h16=>?_) (fun h16=>?_)|refine O.caseB 16 rfl (fun h16=>?_) (fun h16=>?_)
  ·refine O.op (.g rfl rfl) (.fieldObj fld74x2 rfl)<|O.op (.g rfl rfl) (.lo flat3) ?_
   refine O.op (.g rfl rfl) (.fieldObj fld74x2 rfl)<|O.op (.g rfl rfl) (.lo flat3) ?_;refine O.op (.g rfl rfl) (.lss rfl rfl)<|O.q 3 rfl<|O.nil<|S.ret results110 rfl fun w hw=>Holds.end_ hR hw ?_
   first|exact ⟨_,⟨congrArg _ (decide_eq_true (hc.2 zC)).symm,rfl⟩,by repeat (first|exact zpa|exact zpn|(apply zpc;focus (repeat (first|exact zh|apply zt)))|apply zps)⟩|exact ⟨_,⟨congrArg _ (decide_eq_false (fun q=>absurd (hc.1 q) zC)).symm,rfl⟩,by repeat (first|exact zpa|exact zpn|(apply zpc;focus (repeat (first|exact zh|apply zt)))|apply zps)⟩|exact ⟨_,⟨congrArg _ (decide_eq_decide.2 (by rw [hc];omega)),rfl⟩,by repeat (first|exact zpa|exact zpn|(apply zpc;focus (repeat (first|exact zh|apply zt)))|apply zps)⟩
  ·refine O.q 8 rfl<|O.nil<|S.ret results110 rfl fun w hw=>Holds.end_ hR hw ?_
   first|exact ⟨_,⟨congrArg _ (decide_eq_true (hc.2 zC)).symm,rfl⟩,by repeat (first|exact zpa|exact zpn|(apply zpc;focus (repeat (first|exact zh|apply zt)))|apply zps)⟩|exact ⟨_,⟨congrArg _ (decide_eq_false (fun q=>absurd (hc.1 q) zC)).symm,rfl⟩,by repeat (first|exact zpa|exact zpn|(apply zpc;focus (repeat (first|exact zh|apply zt)))|apply zps)⟩|exact ⟨_,⟨congrArg _ (decide_eq_decide.2 (by rw [hc];omega)),rfl⟩,by repeat (first|exact zpa|exact zpn|(apply zpc;focus (repeat (first|exact zh|apply zt)))|apply zps)⟩
theorem r9one_c {r:Fr} {va:Value} {l:List RecT} (ha:Arr RecRp r va l):Con prog 107 #[va] r [] (Ret fun v η=>v=.bool (oneK l)∧η=[]):=by
 have har:=ha;refine Con.of (n:=28) _ rfl func107 rfl rfl rfl fun g hg R hR=>?_;have ha:=ha.mono hg;have hbd:=ha.bound;obtain ⟨a1,c1,rfl⟩:=ha.shape;refine S.seq<|S.region rfl<|O.q 1 rfl<|O.nil<|S.seq<|S.seq<|S.region rfl<|O.q 1 rfl<|O.nil<|S.block<|S.loopK (ι:=Nat) (fun i=>i≤l.length∧oneK (l.take i)=true) (fun i=>[(3,.int .i64 (i:Int))]) [(0,_)] (fun i=>[]) (fun i=>l.length - i) (0) zP (.cons rfl (.nil)) (.cons rfl (.nil)) rfl fun i hx ih=>?_;have hm1:=meltRefl (g:=g);obtain ⟨hx1,hx2⟩:=hx;refine S.seq<|S.seq<|S.region rfl<|O.q 2 rfl<|O.op (.p rfl) (.len rfl underlying47 rfl)<|O.op (.p rfl) (.lss rfl rfl)<|O.nil ?_
 first|refine S.condD rfl (fun h7=>?_) (fun h7=>?_)|refine S.condB rfl (fun h7=>?_) (fun h7=>?_)
 ·have hi:i<l.length:=by omega
  have h0:0<l.length:=by omega
  have hst:=oneK_step hi hx2
  cases e1:recOk l[i] with
  |false =>
   have hno:oneK l=false:=oneK_none (i:=i+1) (Bool.eq_false_iff.2 fun q=>by rw [e1] at hst;exact absurd (hst.1 q).1 zG);refine S.skip<|S.seq<|S.block<|S.seq<|S.regionD (L:=[0,1,2,3,4,5,6,7,8,9,10,11,12,13,14,15,16,17]) F.mixed zD<|OD.q 2 rfl<|OD.ib (.p rfl) underlying47 size74 rfl rfl rfl har hg (h:=fun p12 cs12 hp12 hrr12=>?_);have hr12:=Rp.rel.mono hrr12 hg;obtain ⟨ra3_12,ra5_12,ra6_12,rc3_12,rc5_12,rc6_12,rfl,ho0_12,ho1_12,ho2_12,ha3_12,ha5_12,ha6_12⟩:=RecRp.sh hr12;refine .quiet (.p rfl) rfl (fun _=>.loadAgg isAgg74 zD rfl hp12) ?_;refine OD.call0 (.p rfl) zD rfl zD rfl rfl ((r8right_c hr12)) ?_;rintro _ _ ⟨rfl,rfl⟩
   try simp only [zx1,zx2,zx3]
   refine OD.sF 14 rfl (by exact e1) ?_;refine .quiet (.p rfl) rfl (fun _=>.not rfl)<|OD.q 12 rfl<|ODx.nil<|S.condT rfl<|S.seq<|S.region rfl<|O.q 1 rfl<|O.nil ?_;exact S.rt results107 rfl hR ⟨by rw [hno],rfl⟩
  |true =>
   by_cases e2:l[i].1=l[0].1
   ·
    refine S.skip<|S.seq<|S.block<|S.seq<|S.regionD (L:=[0,1,2,3,4,5,6,7,8,9,10,11,12,13,14,15,16,17]) F.mixed zD<|OD.q 2 rfl<|OD.ib (.p rfl) underlying47 size74 rfl rfl rfl har hg (h:=fun p12 cs12 hp12 hrr12=>?_);have hr12:=Rp.rel.mono hrr12 hg;obtain ⟨ra3_12,ra5_12,ra6_12,rc3_12,rc5_12,rc6_12,rfl,ho0_12,ho1_12,ho2_12,ha3_12,ha5_12,ha6_12⟩:=RecRp.sh hr12;refine .quiet (.p rfl) rfl (fun _=>.loadAgg isAgg74 zD rfl hp12) ?_;refine OD.call0 (.p rfl) zD rfl zD rfl rfl ((r8right_c hr12)) ?_;rintro _ _ ⟨rfl,rfl⟩
    try simp only [zx1,zx2,zx3]
    refine OD.sT 14 rfl (by exact e1) ?_;refine .quiet (.p rfl) rfl (fun _=>.not rfl)<|OD.q 3 rfl<|OD.ib (.g rfl rfl) underlying47 size74 rfl rfl rfl har hg (h:=fun p19 cs19 hp19 hrr19=>?_);have hr19:=Rp.rel.mono hrr19 hg;obtain ⟨ra3_19,ra5_19,ra6_19,rc3_19,rc5_19,rc6_19,rfl,ho0_19,ho1_19,ho2_19,ha3_19,ha5_19,ha6_19⟩:=RecRp.sh hr19;refine .quiet (.g rfl rfl) rfl (fun _=>.fieldAddr fld74x0 rfl)<|.quiet (.g rfl rfl) rfl (fun _=>.loadAt flat9 rfl hp19 rfl) ?_;refine OD.q 1 rfl<|OD.ib (.g rfl rfl) underlying47 size74 rfl rfl (show _=(((0):Nat):Int) by omega) har hg (h:=fun p23 cs23 hp23 hrr23=>?_);have hr23:=Rp.rel.mono hrr23 hg;obtain ⟨ra3_23,ra5_23,ra6_23,rc3_23,rc5_23,rc6_23,rfl,ho0_23,ho1_23,ho2_23,ha3_23,ha5_23,ha6_23⟩:=RecRp.sh hr23;refine .quiet (.g rfl rfl) rfl (fun _=>.fieldAddr fld74x0 rfl)<|.quiet (.g rfl rfl) rfl (fun _=>.loadAt flat9 rfl hp23 rfl) ?_;refine .quiet (.g rfl rfl) rfl (fun _=>.neqS rfl rfl)<|OD.sF 26 rfl (by simp [e2]) ?_;refine OD.q 1 rfl<|ODx.nil<|S.condF rfl<|S.skip<|S.inBlock<|S.region rfl<|O.q 1 rfl<|O.op (.p rfl) (.add rfl rfl (IntWalk.i64_in _ zC))<|O.q 1 rfl<|O.nil ?_;exact S.wk (ih (i+1) (by exact ⟨by omega,hst.2 ⟨e1,e2⟩⟩) zC)
   ·have hno:oneK l=false:=oneK_none (i:=i+1) (Bool.eq_false_iff.2 fun q=>e2 (hst.1 q).2)
    refine S.skip<|S.seq<|S.block<|S.seq<|S.regionD (L:=[0,1,2,3,4,5,6,7,8,9,10,11,12,13,14,15,16,17]) F.mixed zD<|OD.q 2 rfl<|OD.ib (.p rfl) underlying47 size74 rfl rfl rfl har hg (h:=fun p12 cs12 hp12 hrr12=>?_);have hr12:=Rp.rel.mono hrr12 hg;obtain ⟨ra3_12,ra5_12,ra6_12,rc3_12,rc5_12,rc6_12,rfl,ho0_12,ho1_12,ho2_12,ha3_12,ha5_12,ha6_12⟩:=RecRp.sh hr12;refine .quiet (.p rfl) rfl (fun _=>.loadAgg isAgg74 zD rfl hp12) ?_;refine OD.call0 (.p rfl) zD rfl zD rfl rfl ((r8right_c hr12)) ?_;rintro _ _ ⟨rfl,rfl⟩
    try simp only [zx1,zx2,zx3]
    refine OD.sT 14 rfl (by exact e1) ?_;refine .quiet (.p rfl) rfl (fun _=>.not rfl)<|OD.q 3 rfl<|OD.ib (.g rfl rfl) underlying47 size74 rfl rfl rfl har hg (h:=fun p19 cs19 hp19 hrr19=>?_);have hr19:=Rp.rel.mono hrr19 hg;obtain ⟨ra3_19,ra5_19,ra6_19,rc3_19,rc5_19,rc6_19,rfl,ho0_19,ho1_19,ho2_19,ha3_19,ha5_19,ha6_19⟩:=RecRp.sh hr19;refine .quiet (.g rfl rfl) rfl (fun _=>.fieldAddr fld74x0 rfl)<|.quiet (.g rfl rfl) rfl (fun _=>.loadAt flat9 rfl hp19 rfl) ?_;refine OD.q 1 rfl<|OD.ib (.g rfl rfl) underlying47 size74 rfl rfl (show _=(((0):Nat):Int) by omega) har hg (h:=fun p23 cs23 hp23 hrr23=>?_);have hr23:=Rp.rel.mono hrr23 hg;obtain ⟨ra3_23,ra5_23,ra6_23,rc3_23,rc5_23,rc6_23,rfl,ho0_23,ho1_23,ho2_23,ha3_23,ha5_23,ha6_23⟩:=RecRp.sh hr23;refine .quiet (.g rfl rfl) rfl (fun _=>.fieldAddr fld74x0 rfl)<|.quiet (.g rfl rfl) rfl (fun _=>.loadAt flat9 rfl hp23 rfl) ?_;refine .quiet (.g rfl rfl) rfl (fun _=>.neqS rfl rfl)<|OD.sT 26 rfl (by simp [e2]) ?_;refine OD.q 1 rfl<|ODx.nil<|S.condT rfl<|S.seq<|S.region rfl<|O.q 1 rfl<|O.nil ?_;exact S.rt results107 rfl hR ⟨by rw [hno],rfl⟩
 ·clear ih
  have hi:i=l.length:=by omega
  subst hi;rw [List.take_length] at hx2;refine S.exit rfl<|S.seq<|S.region rfl<|O.q 1 rfl<|O.nil ?_;exact S.rt results107 rfl hR ⟨by rw [hx2],rfl⟩
theorem r9right_c {r:Fr} {va:Value} {l:List RecT} (ha:Arr RecRp r va l):Con prog 46 #[va] r [] (Ret fun v η=>v=.bool (decide (SRight l))∧η=[]):=by
 have har:=ha;have hS:=SRight_iff (l:=l);refine Con.of (n:=49) _ rfl func46 rfl rfl rfl fun g hg R hR=>?_;have ha:=ha.mono hg;have hbd:=ha.bound;obtain ⟨a1,c1,rfl⟩:=ha.shape
 cases e0:oneK l with
 |false =>
  refine S.seq<|S.region rfl<|O.q 1 rfl<|O.nil<|S.seq<|S.seq<|S.region rfl<|O.q 1 rfl<|O.call0 (.p rfl) rfl zD rfl rfl ((r9one_c ha)) ?_;rintro _ _ ⟨rfl,rfl⟩
  try simp only [zx1,zx2,zx3]
  refine O.sF 6 rfl (by exact e0) ?_;refine O.op (.p rfl) (.not rfl)<|O.nil<|S.condT rfl<|S.seq<|S.region rfl<|O.q 1 rfl<|O.nil ?_;exact S.rt results46 rfl hR ⟨congrArg _ (decide_eq_false fun q=>by rw [e0] at hS;exact absurd (hS.1 q).1 zG).symm,rfl⟩
 |true =>
  refine S.seq<|S.region rfl<|O.q 1 rfl<|O.nil<|S.seq<|S.seq<|S.region rfl<|O.q 1 rfl<|O.call0 (.p rfl) rfl zD rfl rfl ((r9one_c ha)) ?_;rintro _ _ ⟨rfl,rfl⟩
  try simp only [zx1,zx2,zx3]
  refine O.sT 6 rfl (by exact e0) ?_;refine O.op (.p rfl) (.not rfl)<|O.nil<|S.condF rfl<|S.skip<|S.seq<|S.seq<|S.region rfl<|O.q 1 rfl<|O.nil<|S.block<|S.loopK (ι:=Nat) (fun i=>i≤l.length∧∀ j (h:j<l.length),j<i→(∀ h0:0<j,cmpR l[j-1] l[j]<0)∧∀ k (hk:k<l.length),over l[j] l[k]=false) (fun i=>[(3,.int .i64 (i:Int))]) [(0,_)] (fun i=>[]) (fun i=>l.length - i) (0) (by exact ⟨by simp,fun j h q=>absurd q zC⟩) (.cons rfl (.nil)) (.cons rfl (.nil)) rfl fun i hx ih=>?_;have hm1:=meltRefl (g:=g);obtain ⟨hx1,hx2⟩:=hx;refine S.seq<|S.seq<|S.region rfl<|O.q 2 rfl<|O.op (.p rfl) (.len rfl underlying47 rfl)<|O.op (.p rfl) (.lss rfl rfl)<|O.nil ?_
  first|refine S.condD rfl (fun h11=>?_) (fun h11=>?_)|refine S.condB rfl (fun h11=>?_) (fun h11=>?_)
  ·have hi:i<l.length:=by omega
   by_cases c1:0<i∧∃ hk:i - 1<l.length,¬ cmpR l[i - 1] l[i]<0
   ·obtain ⟨c2,hk,c3⟩:=c1
    refine S.skip<|S.seq<|S.block<|S.seq<|S.seq<|S.regionD (L:=[0,1,2,3,4,5,6,7,8,9,10,11,12,13,14]) F.mixed zD<|OD.q 1 rfl<|.quiet (.p rfl) rfl (fun _=>.gtr rfl rfl)<|OD.sT 15 rfl (by exact decide_eq_true zC) ?_;refine OD.q 3 rfl<|.quiet (.g rfl rfl) rfl (fun _=>.sub rfl rfl (IntWalk.i64_in _ zC))<|OD.ib (.g rfl rfl) underlying47 size74 rfl rfl (show _=(((i - 1):Nat):Int) by omega) har hg (h:=fun p20 cs20 hp20 hrr20=>?_);have hr20:=Rp.rel.mono hrr20 hg;obtain ⟨ra3_20,ra5_20,ra6_20,rc3_20,rc5_20,rc6_20,rfl,ho0_20,ho1_20,ho2_20,ha3_20,ha5_20,ha6_20⟩:=RecRp.sh hr20;refine .quiet (.g rfl rfl) rfl (fun _=>.loadAgg isAgg74 zD rfl hp20) ?_;refine OD.q 2 rfl<|OD.ib (.g rfl rfl) underlying47 size74 rfl rfl rfl har hg (h:=fun p24 cs24 hp24 hrr24=>?_);have hr24:=Rp.rel.mono hrr24 hg;obtain ⟨ra3_24,ra5_24,ra6_24,rc3_24,rc5_24,rc6_24,rfl,ho0_24,ho1_24,ho2_24,ha3_24,ha5_24,ha6_24⟩:=RecRp.sh hr24;refine .quiet (.g rfl rfl) rfl (fun _=>.loadAgg isAgg74 zD rfl hp24) ?_;refine OD.call0 (.g rfl rfl) zD rfl zD rfl rfl ((r9ahead_c hr20 hr24)) ?_;rintro _ _ ⟨rfl,rfl⟩
    try simp only [zx1,zx2,zx3]
    refine OD.sF 26 rfl (by exact decide_eq_false c3) ?_;refine .quiet (.g rfl rfl) rfl (fun _=>.not rfl)<|OD.q 1 rfl<|ODx.nil<|S.condT rfl<|S.seq<|S.region rfl<|O.q 1 rfl<|O.nil ?_;exact S.rt results46 rfl hR ⟨congrArg _ (decide_eq_false fun q=>c3 (((hS.1 q).2 i hi).1 c2)).symm,rfl⟩
   ·have hup:∀ h0:0<i,cmpR l[i - 1] l[i]<0:=fun h0=>Classical.byContradiction fun q=>c1 ⟨h0,by omega,q⟩
    have hk:i - 1<l.length:=by omega
    refine S.skip<|S.seq<|S.block<|S.seq<|S.seq<|S.cut2 (fun (u:Unit)=>True) (fun (u:Unit)=>[]) [(0,_),(3,_)] (fun (u:Unit)=>[]) (.cons rfl (.cons rfl (.nil))) (fun key=>?_) (fun u hx=>?_)
    ·have hm2:=meltRefl (g:=g)
     by_cases c2:0<i
     ·
      refine S.regionD (L:=[0,1,2,3,4,5,6,7,8,9,10,11,12,13,14]) F.mixed zD ?_;refine OD.q 1 rfl<|.quiet (.p rfl) rfl (fun _=>.gtr rfl rfl)<|OD.sT 15 rfl (by exact decide_eq_true zC) ?_;refine OD.q 3 rfl<|.quiet (.g rfl rfl) rfl (fun _=>.sub rfl rfl (IntWalk.i64_in _ zC))<|OD.ib (.g rfl rfl) underlying47 size74 rfl rfl (show _=(((i - 1):Nat):Int) by omega) har hg (h:=fun p20 cs20 hp20 hrr20=>?_);have hr20:=Rp.rel.mono hrr20 hg;obtain ⟨ra3_20,ra5_20,ra6_20,rc3_20,rc5_20,rc6_20,rfl,ho0_20,ho1_20,ho2_20,ha3_20,ha5_20,ha6_20⟩:=RecRp.sh hr20;refine .quiet (.g rfl rfl) rfl (fun _=>.loadAgg isAgg74 zD rfl hp20) ?_;refine OD.q 2 rfl<|OD.ib (.g rfl rfl) underlying47 size74 rfl rfl rfl har hg (h:=fun p24 cs24 hp24 hrr24=>?_);have hr24:=Rp.rel.mono hrr24 hg;obtain ⟨ra3_24,ra5_24,ra6_24,rc3_24,rc5_24,rc6_24,rfl,ho0_24,ho1_24,ho2_24,ha3_24,ha5_24,ha6_24⟩:=RecRp.sh hr24;refine .quiet (.g rfl rfl) rfl (fun _=>.loadAgg isAgg74 zD rfl hp24) ?_;refine OD.call0 (.g rfl rfl) zD rfl zD rfl rfl ((r9ahead_c hr20 hr24)) ?_;rintro _ _ ⟨rfl,rfl⟩
      try simp only [zx1,zx2,zx3]
      refine OD.sT 26 rfl (by exact decide_eq_true (hup c2)) ?_;refine .quiet (.g rfl rfl) rfl (fun _=>.not rfl)<|OD.q 1 rfl<|ODx.nil<|S.condF rfl<|S.skip<|S.pk ?_ (S.weaken ?_ (key (()) (by trivial)))
      ·repeat (first|exact zpa|exact zpn|(apply zpc;focus (repeat (first|exact zh|apply zt)))|apply zps)
      repeat (first|exact Sub.nil|refine Sub.cons rfl ?_)
     ·
      refine S.regionD (L:=[0,1,2,3,4,5,6,7,8,9,10,11,12,13,14]) F.mixed zD ?_;refine OD.q 1 rfl<|.quiet (.p rfl) rfl (fun _=>.gtr rfl rfl)<|OD.sF 15 rfl (by exact decide_eq_false zC) ?_;refine OD.q 13 rfl<|ODx.nil<|S.condF rfl<|S.skip<|S.pk ?_ (S.weaken ?_ (key (()) (by trivial)))
      ·repeat (first|exact zpa|exact zpn|(apply zpc;focus (repeat (first|exact zh|apply zt)))|apply zps)
      repeat (first|exact Sub.nil|refine Sub.cons rfl ?_)
    ·refine S.seq<|S.region rfl<|O.q 1 rfl<|O.nil<|S.block<|S.loopK (ι:=Nat) (fun k=>k≤l.length∧∀ j (h:j<l.length),j<k→over l[i] l[j]=false) (fun k=>[(4,.int .i64 (k:Int))]) [(0,_),(3,_)] (fun k=>[]) (fun k=>l.length - k) (0) (by exact ⟨by simp,fun j h q=>absurd q zC⟩) (.cons rfl (.nil)) (.cons rfl (.cons rfl (.nil))) rfl fun k hx ih=>?_
     have hm2:=meltRefl (g:=g);obtain ⟨hy1,hy2⟩:=hx;refine S.seq<|S.seq<|S.region rfl<|O.q 2 rfl<|O.op (.p rfl) (.len rfl underlying47 rfl)<|O.op (.p rfl) (.lss rfl rfl)<|O.nil ?_
     first|refine S.condD rfl (fun h32=>?_) (fun h32=>?_)|refine S.condB rfl (fun h32=>?_) (fun h32=>?_)
     ·have hkk:k<l.length:=by omega
      by_cases d1:i=k
      ·have hself:over l[i] l[k]=false:=by subst d1;exact over_self _
       refine S.skip<|S.seq<|S.block<|S.seq<|S.regionD (L:=[0,1,2,3,4,5,6,7,8,9,10,11,12,13]) F.mixed zD<|OD.q 2 rfl<|.quiet (.p rfl) rfl (fun _=>.neq rfl rfl)<|OD.sF 37 rfl (by exact decide_eq_false zC) ?_;refine OD.q 11 rfl<|ODx.nil<|S.condF rfl<|S.skip<|S.inBlock<|S.region rfl<|O.q 1 rfl<|O.op (.p rfl) (.add rfl rfl (IntWalk.i64_in _ zC))<|O.q 1 rfl<|O.nil ?_;exact S.wk (ih (k+1) (by exact ⟨by omega,lt_step hy2 fun _=>hself⟩) zC)
      ·cases d2:over l[i] l[k] with
       |true =>
        refine S.skip<|S.seq<|S.block<|S.seq<|S.regionD (L:=[0,1,2,3,4,5,6,7,8,9,10,11,12,13]) F.mixed zD<|OD.q 2 rfl<|.quiet (.p rfl) rfl (fun _=>.neq rfl rfl)<|OD.sT 37 rfl (by exact decide_eq_true zC) ?_;refine OD.q 3 rfl<|OD.ib (.g rfl rfl) underlying47 size74 rfl rfl rfl har hg (h:=fun p41 cs41 hp41 hrr41=>?_);have hr41:=Rp.rel.mono hrr41 hg;obtain ⟨ra3_41,ra5_41,ra6_41,rc3_41,rc5_41,rc6_41,rfl,ho0_41,ho1_41,ho2_41,ha3_41,ha5_41,ha6_41⟩:=RecRp.sh hr41;refine .quiet (.g rfl rfl) rfl (fun _=>.loadAgg isAgg74 zD rfl hp41) ?_;refine OD.q 2 rfl<|OD.ib (.g rfl rfl) underlying47 size74 rfl rfl rfl har hg (h:=fun p45 cs45 hp45 hrr45=>?_);have hr45:=Rp.rel.mono hrr45 hg;obtain ⟨ra3_45,ra5_45,ra6_45,rc3_45,rc5_45,rc6_45,rfl,ho0_45,ho1_45,ho2_45,ha3_45,ha5_45,ha6_45⟩:=RecRp.sh hr45;refine .quiet (.g rfl rfl) rfl (fun _=>.loadAgg isAgg74 zD rfl hp45) ?_;refine OD.call0 (.g rfl rfl) zD rfl zD rfl rfl ((r8over_c hr41 hr45)) ?_;rintro _ _ ⟨rfl,rfl⟩
        try simp only [zx1,zx2,zx3]
        refine OD.sT 47 rfl (by exact d2) ?_;refine OD.q 1 rfl<|ODx.nil<|S.condT rfl<|S.seq<|S.region rfl<|O.q 1 rfl<|O.nil ?_;exact S.rt results46 rfl hR ⟨congrArg _ (decide_eq_false fun q=>by rw [((hS.1 q).2 i hi).2 k hkk] at d2;cases d2).symm,rfl⟩
       |false =>
        refine S.skip<|S.seq<|S.block<|S.seq<|S.regionD (L:=[0,1,2,3,4,5,6,7,8,9,10,11,12,13]) F.mixed zD<|OD.q 2 rfl<|.quiet (.p rfl) rfl (fun _=>.neq rfl rfl)<|OD.sT 37 rfl (by exact decide_eq_true zC) ?_;refine OD.q 3 rfl<|OD.ib (.g rfl rfl) underlying47 size74 rfl rfl rfl har hg (h:=fun p41 cs41 hp41 hrr41=>?_);have hr41:=Rp.rel.mono hrr41 hg;obtain ⟨ra3_41,ra5_41,ra6_41,rc3_41,rc5_41,rc6_41,rfl,ho0_41,ho1_41,ho2_41,ha3_41,ha5_41,ha6_41⟩:=RecRp.sh hr41;refine .quiet (.g rfl rfl) rfl (fun _=>.loadAgg isAgg74 zD rfl hp41) ?_;refine OD.q 2 rfl<|OD.ib (.g rfl rfl) underlying47 size74 rfl rfl rfl har hg (h:=fun p45 cs45 hp45 hrr45=>?_);have hr45:=Rp.rel.mono hrr45 hg;obtain ⟨ra3_45,ra5_45,ra6_45,rc3_45,rc5_45,rc6_45,rfl,ho0_45,ho1_45,ho2_45,ha3_45,ha5_45,ha6_45⟩:=RecRp.sh hr45;refine .quiet (.g rfl rfl) rfl (fun _=>.loadAgg isAgg74 zD rfl hp45) ?_;refine OD.call0 (.g rfl rfl) zD rfl zD rfl rfl ((r8over_c hr41 hr45)) ?_;rintro _ _ ⟨rfl,rfl⟩
        try simp only [zx1,zx2,zx3]
        refine OD.sF 47 rfl (by exact d2) ?_;refine OD.q 1 rfl<|ODx.nil<|S.condF rfl<|S.skip<|S.inBlock<|S.region rfl<|O.q 1 rfl<|O.op (.p rfl) (.add rfl rfl (IntWalk.i64_in _ zC))<|O.q 1 rfl<|O.nil ?_;exact S.wk (ih (k+1) (by exact ⟨by omega,lt_step hy2 fun _=>d2⟩) zC)
     ·clear ih
      have hkk:k=l.length:=by omega
      refine S.exit rfl<|S.inBlock<|S.region rfl<|O.q 1 rfl<|O.op (.p rfl) (.add rfl rfl (IntWalk.i64_in _ zC))<|O.q 1 rfl<|O.nil ?_;exact S.wk (ih (i+1) (by exact ⟨by omega,lt_step hx2 fun _=>⟨hup,fun k hk=>hy2 k hk zC⟩⟩) zC)
  ·clear ih
   have hi:i=l.length:=by omega
   subst hi;refine S.exit rfl<|S.seq<|S.region rfl<|O.q 1 rfl<|O.nil ?_;exact S.rt results46 rfl hR ⟨congrArg _ (decide_eq_true (hS.2 ⟨e0,fun j h=>hx2 j h h⟩)).symm,rfl⟩
noncomputable def setO (b:List UInt8):List RecT:=(sGet b).getD []
noncomputable def setE (b:List UInt8):Int:=if (sGet b).isSome then 0 else 4
theorem setP_badR {most:Int} {s:RS} {i:Nat} {p:List RecT × RS} (h:setP most i s=some p) (hg:p.2.good=false):setP most (i+1) s=none:=by
 exact setP_stop h (recGet_short (by rw [RS.bytes_bad hg];exact Nat.zero_lt_succ _))
theorem r9get_c {r:Fr} {va:Value} {b:List UInt8} (ha:Arr Rp.u8 r va b) (hl:b.length≤1000000000) :
  Con prog 51 #[va] r [] (Ret fun v η=>∃ a c,v=.tuple #[.slice a (setO b).length c,.int .i64 (setE b)]∧η=[ListP (RecG tys) 74 (.slice a (setO b).length c) (setO b)]):=by
 refine Con.of (n:=51) _ rfl func51 rfl rfl rfl fun g hg R hR=>?_;have ha:=ha.mono hg;have hbd:=ha.bound;obtain ⟨a1,c1,rfl⟩:=ha.shape;refine S.seq<|S.region rfl<|O.q 2 rfl<|O.nil<|S.seq<|S.region rfl<|O.q 1 rfl<|O.call0 (.p rfl) rfl zD rfl rfl (rfNew_c (by first|assumption|exact Arr.mono hg zE|exact Arr.left zE|exact Arr.left (Arr.mono hg zE)) zL) ?_;rintro _ _ ⟨b12,rfl,rfl⟩
 try simp only [zx1,zx2,zx3]
 refine O.q 1 rfl<|O.nil<|S.seq<|S.region rfl<|O.q 1 rfl<|O.nil<|S.seq<|S.region rfl<|O.q 2 rfl<|O.op (.p rfl) (.len rfl underlying31 rfl)<|O.op (.p rfl) (.quo rfl rfl zC)<|O.slot 16 (v' :=.int .i64 ((b.length / 8:Nat):Int)) rfl (by rw [Int.tdiv_eq_ediv_of_nonneg zC,IntWalk.i64_in _ zC];rfl) ?_;refine O.callS (.p rfl) rfl zD rfl rfl zB (rfCount_c _) ?_;rintro _ _ ⟨rfl,rfl⟩
 try simp only [zx1,zx2,zx3]
 refine O.q 1 rfl<|O.nil (S.seq (S.seq ?_));obtain ⟨c,hc⟩:∃ c,(RS.mk true b).count ((b.length / 8:Nat):Int)=c:=⟨_,rfl⟩;rw [hc];have lc:c.2.rest.length≤1000000000:=by rw [← hc];exact Nat.le_trans (RS.count_len _ _) hl
 obtain ⟨n0,n8⟩:0≤c.1∧c.1≤((b.length / 8:Nat):Int):=by rw [← hc];exact RS.count_bd _ _ zC
 refine S.listNil (RecG tys) 74 ?_;refine S.region rfl<|O.q 1 rfl<|O.nil<|S.block<|S.loopK3 (ι:=Nat) (κ:=List RecT × RS) (υ:=Option Addr × Nat) (fun i x a=>i≤c.1.toNat∧setP b.length i c.2=some x) (fun i x a=>[(7,.int .i64 (i:Int)),(5,.slice a.1 x.1.length a.2)]) [(0,_),(4,_),(6,_)] (fun i x a=>[ListP (RecG tys) 74 (.slice a.1 x.1.length a.2) x.1,RfP 254 b12 x.2]) (fun i x a=>c.1.toNat - i) (0) (([],c.2)) ((none,0)) (by exact ⟨by omega,rfl⟩) (.cons rfl (.cons rfl (.nil))) (.cons rfl (.cons rfl (.cons rfl (.nil)))) rfl fun i x a hx ih=>?_;have hm1:=meltRefl (g:=g);obtain ⟨hx1,hx2⟩:=hx;have hxl:=(setP_bad hx2).2;have hxr:=setP_len hx2;have hlast:sGet b=none→True:=fun _=>trivial;refine S.seq<|S.seq<|S.region rfl<|O.q 2 rfl<|O.op (.p rfl) (.lss rfl rfl)<|O.q 1 rfl ?_
 first|refine O.caseD 21 rfl (fun h21=>?_) (fun h21=>?_)|refine O.caseB 21 rfl (fun h21=>?_) (fun h21=>?_)
 ·have hi:i<c.1.toNat:=by omega
  cases eg:x.2.good with
  |false =>
   have g1:sGet b=none:=sGet_none hc (k:=i+1) zC (setP_badR hx2 eg);have o1:setO b=[]:=by simp [setO,g1]
   have o2:setE b=4:=by simp [setE,g1]
   refine O.q 1 rfl<|O.callS (.g rfl rfl) rfl zD rfl rfl zB rfGood_c ?_;rintro _ _ ⟨rfl,rfl⟩
   try simp only [zx1,zx2,zx3]
   refine O.sF 23 rfl (by exact eg) ?_;refine O.q 1 rfl<|O.nil<|S.condF rfl<|S.exit rfl<|S.seq<|S.seq<|S.listNil (RecG tys) 74 ?_;refine S.region rfl<|O.q 1 rfl<|O.callS (.p rfl) rfl zD rfl rfl zB rfDone_c ?_;rintro _ _ ⟨rfl,rfl⟩
   try simp only [zx1,zx2,zx3]
   refine O.sF 43 rfl (by (simp [RS.done,eg])) ?_;refine O.op (.p rfl) (.not rfl)<|O.q 5 rfl<|O.nil<|S.condT rfl<|S.seq<|S.region rfl<|O.q 2 rfl<|O.nil<|S.ret2 results51 rfl rfl fun w hw=>Holds.end_ hR hw ?_;exact ⟨_,⟨none,0,by rw [o1,o2];rfl,rfl⟩,by rw [o1];exact by repeat (first|exact zpa|exact zpn|(apply zpc;focus (repeat (first|exact zh|apply zt)))|apply zps)⟩
  |true =>
   have hout:=RS.bytes_out (b.length:Int) x.2
   cases e:recGet (x.2.bytes b.length).1 with
   |none =>
    have E1:recE (x.2.bytes b.length).1=4:=by simp [recE,e]
    have g1:sGet b=none:=sGet_none hc (k:=i+1) zC (setP_stop hx2 e);have o1:setO b=[]:=by simp [setO,g1]
    have o2:setE b=4:=by simp [setE,g1]
    refine O.q 1 rfl<|O.callS (.g rfl rfl) rfl zD rfl rfl zB rfGood_c ?_;rintro _ _ ⟨rfl,rfl⟩
    try simp only [zx1,zx2,zx3]
    refine O.sT 23 rfl (by exact eg) ?_;refine O.q 1 rfl<|O.nil<|S.condT rfl<|S.skip<|S.seq<|S.block<|S.seq<|S.region rfl<|O.q 2 rfl<|O.op (.p rfl) (.len rfl underlying31 rfl)<|O.callS (.p rfl) rfl zD rfl rfl zB (rfBytes_c _) ?_;rintro _ _ ⟨a30,c30,rfl,rfl⟩
    try simp only [zx1,zx2,zx3]
    refine O.frzA zB fun g hs hm ha30=>?_;replace hg:=Fr.sub_trans hg hs;replace hR:=melted hR hm
    try replace ha:=ha.mono hs
    replace hm1:=meltTrans hm1 hm;clear hs hm;refine O.q 1 rfl<|O.nil<|S.seq<|S.region rfl<|O.q 1 rfl<|O.call0 (.p rfl) rfl zD rfl rfl ((r8get_c ha30 zC)) ?_;rintro _ _ ⟨a3_33,c3_33,a5_33,c5_33,a6_33,c6_33,rfl,rfl⟩
    try simp only [zx1,zx2,zx3]
    rw [E1];refine O.q 3 rfl<|O.opE (.p rfl) (.alloc (cs:=[.string ⟨#[]⟩,.int .i64 0,.int .i64 0,.slice none 0 0,.bool false,.slice none 0 0,.slice none 0 0]) zeroValue74 rfl) ?_;rintro _ _ ⟨b9,rfl,rfl⟩;refine O.opU rfl (.storeObj zD rfl rfl rfl rfl zB zK) ?_;refine O.q 1 rfl<|O.nil<|S.seq<|S.seq<|S.region rfl<|O.q 1 rfl<|O.op (.p rfl) (.neq rfl rfl)<|O.sT 37 rfl zF ?_;refine O.nil<|S.condT rfl<|S.seq<|S.listNil (RecG tys) 74 ?_;refine S.region rfl<|O.q 2 rfl<|O.nil<|S.ret2 results51 rfl rfl fun w hw=>Holds.end_ hR hw ?_;exact ⟨_,⟨none,0,by rw [o1,o2];rfl,rfl⟩,by rw [o1];exact by repeat (first|exact zpa|exact zpn|(apply zpc;focus (repeat (first|exact zh|apply zt)))|apply zps)⟩
   |some z =>
    have E1:recE (x.2.bytes b.length).1=0:=by simp [recE,e]
    have O1:recO (x.2.bytes b.length).1=z:=by simp [recO,e]
    have hok:=(recGet_iff.1 e).1;refine O.q 1 rfl<|O.callS (.g rfl rfl) rfl zD rfl rfl zB rfGood_c ?_;rintro _ _ ⟨rfl,rfl⟩
    try simp only [zx1,zx2,zx3]
    refine O.sT 23 rfl (by exact eg) ?_;refine O.q 1 rfl<|O.nil<|S.condT rfl<|S.skip<|S.seq<|S.block<|S.seq<|S.region rfl<|O.q 2 rfl<|O.op (.p rfl) (.len rfl underlying31 rfl)<|O.callS (.p rfl) rfl zD rfl rfl zB (rfBytes_c _) ?_;rintro _ _ ⟨a30,c30,rfl,rfl⟩
    try simp only [zx1,zx2,zx3]
    refine O.frzA zB fun g hs hm ha30=>?_;replace hg:=Fr.sub_trans hg hs;replace hR:=melted hR hm
    try replace ha:=ha.mono hs
    replace hm1:=meltTrans hm1 hm;clear hs hm;refine O.q 1 rfl<|O.nil<|S.seq<|S.region rfl<|O.q 1 rfl<|O.call0 (.p rfl) rfl zD rfl rfl ((r8get_c ha30 zC)) ?_;rintro _ _ ⟨a3_33,c3_33,a5_33,c5_33,a6_33,c6_33,rfl,rfl⟩
    try simp only [zx1,zx2,zx3]
    rw [E1,O1];refine O.q 3 rfl<|O.opE (.p rfl) (.alloc (cs:=[.string ⟨#[]⟩,.int .i64 0,.int .i64 0,.slice none 0 0,.bool false,.slice none 0 0,.slice none 0 0]) zeroValue74 rfl) ?_;rintro _ _ ⟨b9,rfl,rfl⟩;refine O.opU rfl (.storeObj zD rfl rfl rfl rfl zB zK) ?_;refine O.q 1 rfl<|O.nil<|S.seq<|S.seq<|S.region rfl<|O.q 1 rfl<|O.op (.p rfl) (.neq rfl rfl)<|O.sF 37 rfl zF ?_;refine O.nil<|S.condF rfl<|S.skip<|S.objIs (b:=b9) (cs' :=recV z (.slice a3_33 z.2.2.2.1.length c3_33) (.slice a5_33 z.2.2.2.2.2.1.length c5_33) (.slice a6_33 z.2.2.2.2.2.2.1.length c6_33)) zB rfl ?_;refine S.listOpen (k' :=7) rfl zB fun css hcl=>?_;rw [← hcl];refine S.region rfl<|O.q 1 rfl<|O.op (.p rfl) (.loA (news:=[_,_,_,_,_,_,_]) isAgg74) ?_;refine O.opE (.p rfl) (.litP (T:=(Rp.cells 7)) (ys:=[_]) underlying47 elem74 zF rfl rfl ⟨⟨rfl,rfl,by first|(simp;done)|(intro v hv;simp [Value.cells] at hv;rcases hv with rfl|rfl<;>rfl)|(refine List.forall_mem_cons.2 ⟨rfl,?_⟩;repeat (first|exact (fun _ h=>absurd h List.not_mem_nil)|refine List.forall_mem_cons.2 ⟨rfl,?_⟩))⟩,trivial⟩ zF) ?_;rintro _ _ ⟨a40,c40,rfl,rfl⟩;refine O.opE (.p rfl) (.appendO (T:=(Rp.cells 7)) underlying47 elem74 zF rfl rfl zB zB zL zL) ?_;rintro _ _ ⟨a41,c41,rfl,rfl⟩
    refine O.q 1 rfl<|O.nil<|S.inBlock<|S.region rfl<|O.q 1 rfl<|O.op (.p rfl) (.add rfl rfl (IntWalk.i64_in _ zC))<|O.q 1 rfl<|O.nil<|S.foldS (A:=(RecG tys).own (recV z (.slice a3_33 z.2.2.2.1.length c3_33) (.slice a5_33 z.2.2.2.2.2.1.length c5_33) (.slice a6_33 z.2.2.2.2.2.2.1.length c6_33)) z) (bs:=recWs z (.slice a3_33 z.2.2.2.1.length c3_33) (.slice a5_33 z.2.2.2.2.2.1.length c5_33) (.slice a6_33 z.2.2.2.2.2.2.1.length c6_33)) zN (fun m h=>recG_sat hok h) ?_;refine S.listPut (G:=RecG tys) (k' :=7) rfl zB zB zB ?_;simp only [List.length_singleton];rw [show css.length+1=(x.1++[z]).length from by simp [hcl]];exact S.melt hm1 (S.pw (ih (i+1) ((x.1++[z],(x.2.bytes b.length).2)) ((a41,c41)) (by exact ⟨by omega,setP_next hx2 e⟩) zC))
 ·clear ih
  have hi:i=c.1.toNat:=by omega
  subst hi;have hgt:=sGet_eq hc hx2;obtain ⟨l,s⟩:=x
  cases e1:s.done with
  |false =>
   have g1:sGet b=none:=by rw [hgt,if_neg (fun q=>by rw [e1] at q;exact absurd q.1 zF)]
   have o1:setO b=[]:=by simp [setO,g1]
   have o2:setE b=4:=by simp [setE,g1]
   refine O.q 3 rfl<|O.nil<|S.condF rfl<|S.exit rfl<|S.seq<|S.seq<|S.listNil (RecG tys) 74 ?_;refine S.region rfl<|O.q 1 rfl<|O.callS (.p rfl) rfl zD rfl rfl zB rfDone_c ?_;rintro _ _ ⟨rfl,rfl⟩
   try simp only [zx1,zx2,zx3]
   refine O.sF 43 rfl (by exact e1) ?_;refine O.op (.p rfl) (.not rfl)<|O.q 5 rfl<|O.nil<|S.condT rfl<|S.seq<|S.region rfl<|O.q 2 rfl<|O.nil<|S.ret2 results51 rfl rfl fun w hw=>Holds.end_ hR hw ?_;exact ⟨_,⟨none,0,by rw [o1,o2];rfl,rfl⟩,by rw [o1];exact by repeat (first|exact zpa|exact zpn|(apply zpc;focus (repeat (first|exact zh|apply zt)))|apply zps)⟩
  |true =>
   by_cases hR1:SRight l
   ·have g1:sGet b=some l:=by rw [hgt,if_pos ⟨e1,hR1⟩]
    have o1:setO b=l:=by simp [setO,g1]
    have o2:setE b=0:=by simp [setE,g1]
    refine O.q 3 rfl<|O.nil<|S.condF rfl<|S.exit rfl<|S.seq (S.seq ?_);have hg_q:=hg;have hR_q:=hR
    try have ha_q:=ha
    refine S.frzH (B:=ListP (RecG tys) 74 (.slice a.1 l.length a.2) l) zB fun gq hsq ⟨mq,hmq,hsmq⟩ hbq=>?_;replace hg:=Fr.sub_trans hg hsq;replace hR:=backR hR hbq
    try replace ha:=ha.mono hsq
    have hlr:Arr RecRp gq.h (.slice a.1 l.length a.2) l:=(ListP.arr hmq).mono hsmq;refine S.region rfl<|O.q 1 rfl<|O.callS (.p rfl) rfl zD rfl rfl zB rfDone_c ?_;rintro _ _ ⟨rfl,rfl⟩
    try simp only [zx1,zx2,zx3]
    refine O.sT 43 rfl (by exact e1) ?_;refine O.op (.p rfl) (.not rfl)<|O.q 2 rfl<|O.call0 (.g rfl rfl) rfl zD rfl rfl ((r9right_c hlr)) ?_;rintro _ _ ⟨rfl,rfl⟩
    try simp only [zx1,zx2,zx3]
    refine O.sT 47 rfl (by exact decide_eq_true hR1) ?_;refine O.op (.g rfl rfl) (.not rfl)<|O.q 1 rfl<|O.nil<|S.condF rfl<|S.skip<|S.seq<|S.back hbq ?_;replace hg:=hg_q;replace hR:=hR_q
    try replace ha:=ha_q
    clear hg_q hR_q;refine S.region rfl<|O.q 3 rfl<|O.nil<|S.ret2 results51 rfl rfl fun w hw=>Holds.end_ hR hw ?_;exact ⟨_,⟨a.1,a.2,by rw [o1,o2],rfl⟩,by rw [o1];exact by repeat (first|exact zpa|exact zpn|(apply zpc;focus (repeat (first|exact zh|apply zt)))|apply zps)⟩
   ·have g1:sGet b=none:=by rw [hgt,if_neg (fun q=>hR1 q.2)]
    have o1:setO b=[]:=by simp [setO,g1]
    have o2:setE b=4:=by simp [setE,g1]
    refine O.q 3 rfl<|O.nil<|S.condF rfl<|S.exit rfl<|S.seq (S.seq ?_);have hg_q:=hg;have hR_q:=hR
    try have ha_q:=ha
    refine S.frzH (B:=ListP (RecG tys) 74 (.slice a.1 l.length a.2) l) zB fun gq hsq ⟨mq,hmq,hsmq⟩ hbq=>?_;replace hg:=Fr.sub_trans hg hsq;replace hR:=backR hR hbq
    try replace ha:=ha.mono hsq
    have hlr:Arr RecRp gq.h (.slice a.1 l.length a.2) l:=(ListP.arr hmq).mono hsmq;refine S.listNil (RecG tys) 74 ?_;refine S.region rfl<|O.q 1 rfl<|O.callS (.p rfl) rfl zD rfl rfl zB rfDone_c ?_;rintro _ _ ⟨rfl,rfl⟩
    try simp only [zx1,zx2,zx3]
    refine O.sT 43 rfl (by exact e1) ?_;refine O.op (.p rfl) (.not rfl)<|O.q 2 rfl<|O.call0 (.g rfl rfl) rfl zD rfl rfl ((r9right_c hlr)) ?_;rintro _ _ ⟨rfl,rfl⟩
    try simp only [zx1,zx2,zx3]
    refine O.sF 47 rfl (by exact decide_eq_false hR1) ?_;refine O.op (.g rfl rfl) (.not rfl)<|O.q 1 rfl<|O.nil<|S.condT rfl<|S.seq<|S.back hbq ?_;replace hg:=hg_q;replace hR:=hR_q
    try replace ha:=ha_q
    clear hg_q hR_q;refine S.region rfl<|O.q 2 rfl<|O.nil<|S.ret2 results51 rfl rfl fun w hw=>Holds.end_ hR hw ?_;exact ⟨_,⟨none,0,by rw [o1,o2];rfl,rfl⟩,by rw [o1];exact by repeat (first|exact zpa|exact zpn|(apply zpc;focus (repeat (first|exact zh|apply zt)))|apply zps)⟩
end Go.Proofs.YtodhbhanmdfdeaaGreat
