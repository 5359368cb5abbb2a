/- Texts of this proof. -/
import Derived.Test.YtodhbhanmdfdeaaGreatQLent1
import Derived.Test.YtodhbhanmdfdeaaGreatQSpRs3
open Go Go.Sp Go.Proofs.Tryz
set_option maxRecDepth 100000
set_option maxHeartbeats 1000000
attribute [local irreducible] obj Own OwnP
namespace Go.Proofs.YtodhbhanmdfdeaaGreat
def SetK (b:List UInt8) (v:Value) (η:List SProp):Prop:=∃ l a c,sGet b=some l∧v=.slice a l.length c∧η=[ListP (RecG tys) 74 (.slice a l.length c) l]
theorem recG_sat {x:RecT} {v3 v5 v6:Value} {m:Fr} (h:recOk x=true) (hs:Sat (recWs x v3 v5 v6) m):(RecG tys).own (recV x v3 v5 v6) x m:=by
 have h1:=shaped_iff.1 (recOk_iff.1 h).1;have hd:=dotOk_iff.1 h1.2.2.1;simp only [rDot] at hd;exact RecG.mk zE ⟨by omega,by omega⟩ ⟨by omega,by omega⟩ hs
theorem sget1_c {r:Fr} {p:Nat} {va:Value} {b:List UInt8} (hp:At r ⟨p,0,none⟩ [va]) (ha:Arr Rp.u8 r va b) (hl:b.length≤1000000000) :
  Con prog 126 (#[]++#[]++#[.pointer (some ⟨p,0,none⟩)]) r [] (RetP (fun v η=>SetK b v η) (fun ch η=>∃ z,ch=errP 32 z∧(sGet b=none∧z=4)∧η=[])):=by
 refine Con.of (n:=37) [.pointer (some ⟨p,0,none⟩)] rfl func126 rfl rfl rfl fun g hg R hR=>?_;have hp:=hp.mono hg;have ha:=ha.mono hg;have hbd:=ha.bound;obtain ⟨a1,c1,rfl⟩:=ha.shape;refine S.seq<|S.region rfl<|O.q 1 rfl<|O.nil<|S.seq<|S.region rfl<|O.op (.p rfl) (.loadAt flat31 rfl hp rfl) ?_;refine O.call0 (.p rfl) rfl zB rfl rfl (rdNew_c (by first|assumption|exact Arr.mono hg zD|exact Arr.left zD|exact Arr.left (Arr.mono hg zD)) zI) ?_;rintro _ _ ⟨b7,rfl,rfl⟩
 try simp only [zx1,zx2,zx3]
 refine O.q 1 rfl<|O.nil<|S.seq<|S.region rfl<|O.q 1 rfl<|O.nil<|S.seq<|S.seq<|S.region rfl<|O.q 1 rfl<|O.op (.p rfl) (.loadAt flat31 rfl hp rfl) ?_;refine O.op (.p rfl) (.len rfl underlying31 rfl)<|O.op (.p rfl) (.quo rfl rfl zE)<|O.slot 11 (v' :=.int .i64 ((b.length / 8:Nat):Int)) rfl (by rw [Int.tdiv_eq_ediv_of_nonneg zE,IntWalk.i64_in _ zE];rfl) ?_;refine O.callS (.p rfl) rfl zB rfl rfl zC (rdCount_c _) ?_;rintro _ _ ⟨rfl,rfl⟩
 try simp only [zx1,zx2,zx3]
 refine O.q 1 rfl<|O.nil (S.block ?_);obtain ⟨c,hc⟩:∃ c,(RS.mk true b).count ((b.length / 8:Nat):Int)=c:=⟨_,rfl⟩;rw [hc];have lc:c.2.rest.length≤1000000000:=by rw [← hc];exact Nat.le_trans (RS.count_len _ _) hl
 obtain ⟨n0,n8⟩:0≤c.1∧c.1≤((b.length / 8:Nat):Int):=by rw [← hc];exact RS.count_bd _ _ zE
 refine S.listNil (RecG tys) 74 ?_;refine S.loopK3 (ι:=Nat) (κ:=List RecT × RS) (υ:=Option Addr × Nat) (fun i x a=>i≤c.1.toNat∧setP b.length i c.2=some x) (fun i x a=>[(13,.int .i64 (i:Int)),(3,.slice a.1 x.1.length a.2)]) [(0,_),(2,_),(12,_)] (fun i x a=>[ListP (RecG tys) 74 (.slice a.1 x.1.length a.2) x.1,RdP 226 b7 x.2]) (fun i x a=>c.1.toNat - i) (0) (([],c.2)) ((none,0)) (by exact ⟨by omega,rfl⟩) (.cons rfl (.cons rfl (.nil))) (.cons rfl (.cons rfl (.cons rfl (.nil)))) rfl fun i x a hx ih=>?_;have hm1:=meltRefl (g:=g);obtain ⟨hx1,hx2⟩:=hx;have hxl:=(setP_bad hx2).2;have hxr:=setP_len hx2;refine S.seq<|S.region rfl<|O.op (.p rfl) (.lss rfl rfl)<|O.nil (S.seq ?_)
 first|refine S.condD rfl (fun h14=>?_) (fun h14=>?_)|refine S.condB rfl (fun h14=>?_) (fun h14=>?_)
 ·have hi:i<c.1.toNat:=by omega
  have hout:=RS.bytes_out (b.length:Int) x.2
  cases e:recGet (x.2.bytes b.length).1 with
  |none =>
   have hno:sGet b=none:=sGet_none hc (k:=i+1) zE (setP_stop hx2 e);refine S.skip<|S.seq<|S.block<|S.seq<|S.region rfl<|O.q 1 rfl<|O.op (.p rfl) (.loadAt flat31 rfl hp rfl) ?_;refine O.op (.p rfl) (.len rfl underlying31 rfl)<|O.callS (.p rfl) rfl zB rfl rfl zC (rdBytes_c _ zI) ?_;rintro _ _ ⟨a19,c19,rfl,rfl⟩
   try simp only [zx1,zx2,zx3]
   refine O.frzA zC fun g hs hm ha19=>?_;replace hg:=Fr.sub_trans hg hs;replace hR:=melted hR hm
   try replace hp:=hp.mono hs
   try replace ha:=ha.mono hs
   replace hm1:=meltTrans hm1 hm;clear hs hm;refine O.call0 (.p rfl) rfl zB rfl rfl ((rGetN_c e ha19 zE)) ?_;rintro _ _ ⟨rfl,rfl⟩
   try simp only [zx1,zx2,zx3]
   refine O.q 3 rfl<|O.opE (.p rfl) (.alloc (cs:=[.string ⟨#[]⟩,.int .i64 0,.int .i64 0,.slice none 0 0,.bool false,.slice none 0 0,.slice none 0 0]) zeroValue74 rfl) ?_;rintro _ _ ⟨b4,rfl,rfl⟩;refine O.opU rfl (.storeObj zB rfl rfl rfl rfl zC zH) ?_;refine O.q 1 rfl<|O.nil<|S.seq<|S.region rfl<|O.q 1 rfl<|O.op (.p rfl) (.eql rfl rfl)<|O.sF 24 rfl zF ?_;refine O.callP0 (.p rfl) rfl zB rfl rfl (smust_c _) (fun ch η' w hX hW=>by (obtain ⟨_,rfl,rfl⟩:=hX;exact hR _ _ w ⟨4,rfl,⟨hno,rfl⟩,rfl⟩ hW.drop_all)) ?_;rintro _ _ ⟨hb25,rfl,rfl⟩
   try simp only [zx1,zx2,zx3]
   exact absurd hb25 zJ
  |some z =>
   have hok:=(recGet_iff.1 e).1;refine S.skip<|S.seq<|S.block<|S.seq<|S.region rfl<|O.q 1 rfl<|O.op (.p rfl) (.loadAt flat31 rfl hp rfl) ?_;refine O.op (.p rfl) (.len rfl underlying31 rfl)<|O.callS (.p rfl) rfl zB rfl rfl zC (rdBytes_c _ zI) ?_;rintro _ _ ⟨a19,c19,rfl,rfl⟩
   try simp only [zx1,zx2,zx3]
   refine O.frzA zC fun g hs hm ha19=>?_;replace hg:=Fr.sub_trans hg hs;replace hR:=melted hR hm
   try replace hp:=hp.mono hs
   try replace ha:=ha.mono hs
   replace hm1:=meltTrans hm1 hm;clear hs hm;refine O.call0 (.p rfl) rfl zB rfl rfl ((rGetY_c e ha19 zE)) ?_;rintro _ _ ⟨a3,c3,a5,c5,a6,c6,rfl,rfl⟩
   try simp only [zx1,zx2,zx3]
   refine O.q 3 rfl<|O.opE (.p rfl) (.alloc (cs:=[.string ⟨#[]⟩,.int .i64 0,.int .i64 0,.slice none 0 0,.bool false,.slice none 0 0,.slice none 0 0]) zeroValue74 rfl) ?_;rintro _ _ ⟨b4,rfl,rfl⟩;refine O.opU rfl (.storeObj zB rfl rfl rfl rfl zC zH) ?_;refine O.q 1 rfl<|O.nil<|S.seq<|S.region rfl<|O.q 1 rfl<|O.op (.p rfl) (.eql rfl rfl)<|O.sT 24 rfl zF ?_;refine O.callP0 (.p rfl) rfl zB rfl rfl (smust_c _) (fun ch η' w hX hW=>by (exact absurd hX.1 zJ)) ?_;rintro _ _ ⟨hb25,rfl,rfl⟩
   try simp only [zx1,zx2,zx3]
   refine O.nil<|S.listOpen (k' :=7) rfl zC fun css hcl=>?_;rw [← hcl];refine S.region rfl<|O.q 1 rfl<|O.op (.p rfl) (.loA (news:=[_,_,_,_,_,_,_]) isAgg74) ?_;refine O.opE (.p rfl) (.litP (T:=(Rp.cells 7)) (ys:=[_]) underlying47 elem74 zF rfl rfl ⟨⟨rfl,rfl,by first|(simp;done)|(intro v hv;simp [Value.cells] at hv;rcases hv with rfl|rfl<;>rfl)|(refine List.forall_mem_cons.2 ⟨rfl,?_⟩;repeat (first|exact (fun _ h=>absurd h List.not_mem_nil)|refine List.forall_mem_cons.2 ⟨rfl,?_⟩))⟩,trivial⟩ zF) ?_;rintro _ _ ⟨a28,c28,rfl,rfl⟩;refine O.opE (.p rfl) (.appendO (T:=(Rp.cells 7)) underlying47 elem74 zF rfl rfl zC zC zI zI) ?_;rintro _ _ ⟨a29,c29,rfl,rfl⟩;refine O.q 1 rfl<|O.nil<|S.inBlock<|S.region rfl<|O.op (.p rfl) (.add rfl rfl (IntWalk.i64_in _ zE))<|O.q 1 rfl<|O.nil<|S.foldS (A:=(RecG tys).own (recV z (.slice a3 z.2.2.2.1.length c3) (.slice a5 z.2.2.2.2.2.1.length c5) (.slice a6 z.2.2.2.2.2.2.1.length c6)) z) (bs:=recWs z (.slice a3 z.2.2.2.1.length c3) (.slice a5 z.2.2.2.2.2.1.length c5) (.slice a6 z.2.2.2.2.2.2.1.length c6)) zM (fun m h=>recG_sat hok h) ?_;refine S.listPut (G:=RecG tys) (k' :=7) rfl zC zC zC ?_;simp only [List.length_singleton];rw [show css.length+1=(x.1++[z]).length from by simp [hcl]];exact S.melt hm1 (S.pw (ih (i+1) ((x.1++[z],(x.2.bytes b.length).2)) ((a29,c29)) (by exact ⟨by omega,setP_next hx2 e⟩) zE))
 ·clear ih
  have hi:i=c.1.toNat:=by omega
  subst hi;have hgt:=sGet_eq hc hx2;obtain ⟨l,s⟩:=x
  cases e1:s.done with
  |false =>
   have hno:sGet b=none:=by rw [hgt,if_neg (fun q=>by rw [e1] at q;exact absurd q.1 zF)]
   refine S.exit rfl<|S.seq<|S.region rfl<|O.q 1 rfl<|O.callS (.p rfl) rfl zB rfl rfl zC rdDone_c ?_;rintro _ _ ⟨rfl,rfl⟩
   try simp only [zx1,zx2,zx3]
   refine O.sF 32 rfl (by exact e1) ?_;refine O.callP0 (.p rfl) rfl zB rfl rfl (smust_c _) (fun ch η' w hX hW=>by (obtain ⟨_,rfl,rfl⟩:=hX;exact hR _ _ w ⟨4,rfl,⟨hno,rfl⟩,rfl⟩ hW.drop_all)) ?_;rintro _ _ ⟨hb33,rfl,rfl⟩
   try simp only [zx1,zx2,zx3]
   exact absurd hb33 zJ
  |true =>
   refine S.exit rfl<|S.seq<|S.region rfl<|O.q 1 rfl<|O.callS (.p rfl) rfl zB rfl rfl zC rdDone_c ?_;rintro _ _ ⟨rfl,rfl⟩
   try simp only [zx1,zx2,zx3]
   refine O.sT 32 rfl (by exact e1) ?_;refine O.callP0 (.p rfl) rfl zB rfl rfl (smust_c _) (fun ch η' w hX hW=>by (exact absurd hX.1 zJ)) ?_;rintro _ _ ⟨hb33,rfl,rfl⟩
   try simp only [zx1,zx2,zx3]
   refine O.nil (S.seq ?_);have hg_q:=hg;have hR_q:=hR
   try have hp_q:=hp
   try have ha_q:=ha
   refine S.frzH (B:=ListP (RecG tys) 74 (.slice a.1 l.length a.2) l) zC fun gq hsq ⟨mq,hmq,hsmq⟩ hbq=>?_;replace hg:=Fr.sub_trans hg hsq;replace hR:=backR hR hbq
   try replace hp:=hp.mono hsq
   try replace ha:=ha.mono hsq
   have hlr:Arr RecRp gq.h (.slice a.1 l.length a.2) l:=(ListP.arr hmq).mono hsmq;refine S.region rfl<|O.q 1 rfl<|O.callP0 (.p rfl) rfl zB rfl rfl ((rowOf_c hlr (by simp only at hxl;omega))) (fun ch η' w hX hW=>by (obtain ⟨hb,rfl,rfl⟩:=hX;exact hR _ _ w ⟨4,rfl,⟨by rw [hgt,if_neg (fun q=>hb q.2)],rfl⟩,rfl⟩ hW.drop_all)) ?_;rintro _ _ ⟨hright,b35,rfl,rfl⟩
   try simp only [zx1,zx2,zx3]
   refine O.nil<|S.seq<|S.back hbq ?_;replace hg:=hg_q;replace hR:=hR_q
   try replace hp:=hp_q
   try replace ha:=ha_q
   clear hg_q hR_q;have hyes:sGet b=some l:=by rw [hgt,if_pos ⟨e1,hright⟩]
   refine S.region rfl<|O.q 2 rfl<|O.nil ?_;exact S.rt results126 rfl hR ⟨l,a.1,a.2,hyes,rfl,rfl⟩
def set_t (b:List UInt8) (v:Value) (η:List SProp):Prop:=(∃ u,SetK b u η∧v=.tuple #[u,.int .i64 0])∨(sGet b=none∧v=.tuple #[.slice none 0 0,.int .i64 4]∧η=[])
theorem sTriedG_c {r:Fr} {first cap:Array Value} {b:List UInt8} (con:Con prog 126 (first++#[]++cap) r [] (RetP (fun v η=>SetK b v η) (fun ch η=>∃ z,ch=errP 32 z∧(sGet b=none∧z=4)∧η=[]))) (h1:(Value.func (.func 126) first cap).oneCell' =true:=by rfl) :
  Con prog 102 #[.func (.func 126) first cap] r [] (Ret fun v η=>set_t b v η) :=
 (triedSS_c zB h1 (fun _ _ h=>by obtain ⟨l,a,c,_,rfl,_⟩:=h;rfl) con).mono (Ret.imp fun v η h=>by
  rcases h with ⟨u,h2,h3⟩|⟨z,⟨h2,rfl⟩,h3,h4⟩
  ·exact .inl ⟨u,h2,h3⟩
  ·exact .inr ⟨h2,h4,h3⟩)
theorem set_tY {b:List UInt8} {l:List RecT} {v:Value} {η:List SProp} (e:sGet b=some l) (h:set_t b v η):∃ a c,v=.tuple #[.slice a l.length c,.int .i64 0]∧η=[ListP (RecG tys) 74 (.slice a l.length c) l]:=by
 rcases h with ⟨_,⟨y,a,c,h1,rfl,rfl⟩,rfl⟩|⟨h1,_⟩
 ·rw [e] at h1;obtain rfl:=Option.some.inj h1;exact ⟨a,c,rfl,rfl⟩
 ·rw [e] at h1;cases h1
theorem set_tN {b:List UInt8} {v:Value} {η:List SProp} (e:sGet b=none) (h:set_t b v η):v=.tuple #[.slice none 0 0,.int .i64 4]∧η=[]:=by
 rcases h with ⟨_,⟨y,a,c,h1,_⟩,_⟩|⟨_,h1,h2⟩
 ·rw [e] at h1;cases h1
 ·exact ⟨h1,h2⟩
theorem sGet_c {r:Fr} {va:Value} {b:List UInt8} (ha:Arr Rp.u8 r va b) (hl:b.length≤1000000000):Con prog 50 #[va] r [] (Ret fun v η=>set_t b v η):=by
 refine Con.of (n:=8) _ rfl func50 rfl rfl rfl fun g hg R hR=>?_;have ha:=ha.mono hg;obtain ⟨a1,c1,rfl⟩:=ha.shape
 cases e:sGet b with
 |some x =>
  refine S.seq<|S.region rfl<|O.opE (.p rfl) (.box (cs:=[_]) rfl rfl) ?_;rintro _ _ ⟨b1,rfl,rfl⟩;refine O.frzO zC fun g hs hm hb1=>?_;replace hg:=Fr.sub_trans hg hs;replace hR:=melted hR hm
  try replace ha:=ha.mono hs
  clear hs hm;refine O.q 2 rfl<|O.nil<|S.seq<|S.region rfl<|O.op (.p rfl) (.mkFunc rfl rfl)<|O.call0 (.p rfl) rfl zB rfl rfl (((sTriedG_c (sget1_c hb1 ha hl)).mono (Ret.imp fun _ _ h=>set_tY e h))) ?_;rintro _ _ ⟨a5,c5,rfl,rfl⟩
  try simp only [zx1,zx2,zx3]
  refine O.q 4 rfl<|O.nil<|S.ret2 results50 rfl rfl fun w hw=>Holds.end_ hR hw ?_;exact pk (.inl ⟨_,⟨x,a5,c5,e,rfl,rfl⟩,rfl⟩)
 |none =>
  refine S.seq<|S.region rfl<|O.opE (.p rfl) (.box (cs:=[_]) rfl rfl) ?_;rintro _ _ ⟨b1,rfl,rfl⟩;refine O.frzO zC fun g hs hm hb1=>?_;replace hg:=Fr.sub_trans hg hs;replace hR:=melted hR hm
  try replace ha:=ha.mono hs
  clear hs hm;refine O.q 2 rfl<|O.nil<|S.seq<|S.region rfl<|O.op (.p rfl) (.mkFunc rfl rfl)<|O.call0 (.p rfl) rfl zB rfl rfl (((sTriedG_c (sget1_c hb1 ha hl)).mono (Ret.imp fun _ _ h=>set_tN e h))) ?_;rintro _ _ ⟨rfl,rfl⟩
  try simp only [zx1,zx2,zx3]
  refine O.q 4 rfl<|O.nil<|S.ret2 results50 rfl rfl fun w hw=>Holds.end_ hR hw ?_;exact pk (.inr ⟨e,rfl,rfl⟩)
noncomputable def setO (b:List UInt8):List RecT:=(sGet b).getD []
noncomputable def setE (b:List UInt8):Int:=if (sGet b).isSome then 0 else 4
end Go.Proofs.YtodhbhanmdfdeaaGreat
