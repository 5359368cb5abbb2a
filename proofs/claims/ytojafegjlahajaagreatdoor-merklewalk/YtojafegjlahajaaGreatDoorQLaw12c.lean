/- Texts of this proof. -/
import Derived.Test.YtojafegjlahajaaGreatDoorQLaw12b
import Derived.Test.YtojafegjlahajaaGreatDoorQSpMWalk
open Go Go.Sp Go.Proofs.Tryz
set_option maxRecDepth 100000
set_option maxHeartbeats 1000000
attribute [local irreducible] obj Own OwnP
namespace Go.Proofs.YtojafegjlahajaaGreatDoor
attribute [local irreducible] treeNode treeSum putsL
theorem node_flat {L:List LeafT} {q:List UInt8} (h:¬ (2≤(underL q L).length∧q.length<510)) (hq:q.length≤510):(treeNode L q).2.2.2.1=underL q L∧(treeNode L q).1≠3:=by
 by_cases h0:(underL q L).length=0
 ·have e:=List.eq_nil_of_length_eq_zero h0
  rw [treeNode_0 e,e];exact ⟨rfl,fun e=>absurd e (show ¬ (1:UInt8)=3 by decide)⟩
 ·by_cases h1:(underL q L).length=1
  ·obtain ⟨x,hx⟩:=List.length_eq_one_iff.1 h1
   rw [treeNode_1 hx,hx];exact ⟨rfl,fun e=>absurd e (show ¬ (2:UInt8)=3 by decide)⟩
  ·rw [treeNode_many zB zB];exact ⟨rfl,fun e=>absurd e (show ¬ (4:UInt8)=3 by decide)⟩
theorem node_leaves_under {L:List LeafT} {q:List UInt8}:∀ y∈(treeNode L q).2.2.2.1,y∈underL q L:=fun y hy=>by
 rcases treeNode_leaves L q with e|e
 ·rw [e] at hy;cases hy
 ·rw [e] at hy;exact hy
theorem pre_take {p w:List UInt8} (h:p.isPrefixOf w=true):w.take p.length=p:=by
 obtain ⟨t,rfl⟩:=List.isPrefixOf_iff_prefix.1 h;exact List.take_left
theorem u8_ne {k:UInt8} (h:k≠3):(k.toNat:Int)≠3:=fun e=>h (UInt8.toNat_inj.1 (by show k.toNat=3;omega))
theorem walk_few {L:List LeafT} {met:List (List UInt8)} {n:Nat} {R:List (List UInt8)} (h:WalkU L met n R):met.length≤L.length:=by
 have:=h.keys.length_eq;rw [List.length_append,List.length_map] at this
 omega
theorem walk_ms {L:List LeafT} {q:List UInt8} {R:List (List UInt8)} (hl:q.length<510) (h2:2≤(underL q L).length):(R++[q++[48],q++[49]]).length+potU L (R++[q++[48],q++[49]])<(q::R).length+potU L (q::R):=by
 have hs:=(under_split (L:=L) hl).length_eq;rw [List.length_append] at hs;have e:potU L [q++[48],q++[49]]=(underL (q++[48]) L).length*(510 - (q.length+1))+(underL (q++[49]) L).length*(510 - (q.length+1)):=by unfold potU;simp
 rw [potU_app,e,← Nat.add_mul,hs,potU_cons,List.length_append];have e2:510 - q.length=(510 - (q.length+1))+1:=by omega
 rw [e2,Nat.mul_add,Nat.mul_one];simp only [List.length_cons,List.length_nil]
 omega
theorem merkleWalk_c {r:Fr} {z:Int} {va:Value} {l:List LeafT} (hz:InI64 z) (ha:Arr LeafRp r va l) (hH:At r ⟨0,0,none⟩ (w64s shaH)) (hK:At r ⟨1,0,none⟩ (w64s shaK)) :
  Con prog 5 #[.int .i64 z,va] r [] (Ret fun v η=>v=.bool true∧η=[]):=by
 obtain ⟨a1,c1,rfl⟩:=ha.shape;obtain ⟨s,hs,hs4⟩:=pick_nat12 z (n:=4) zE;have hs' :pick z 4=(s:Int):=hs;refine Con.of (n:=183) _ rfl func5 rfl rfl rfl fun g hg R hR=>?_;have ha:=ha.mono hg;have hH:=hH.mono hg;have hK:=hK.mono hg;refine S.seq<|S.region rfl<|O.q 1 rfl<|O.nil<|S.seq<|S.seq<|S.region rfl<|O.call0 (.p rfl) rfl zC rfl rfl ((awake_c hH hK)) ?_;rintro _ _ ⟨rfl,rfl⟩
 try simp only [zx1,zx2,zx3]
 refine O.sT 19 rfl zF ?_;refine O.op (.p rfl) (.not rfl)<|O.nil<|S.condF rfl<|S.skip<|S.seq<|S.seq<|S.region rfl<|O.q 1 rfl<|O.call0 (.p rfl) rfl zC rfl rfl ((light_c ha)) ?_;rintro _ _ ⟨ok1,hok1,rfl,rfl⟩
 try simp only [zx1,zx2,zx3]
 refine O.op (.p rfl) ((by first|exact .notD rfl|exact .not rfl)) ?_;refine O.nil ?_
 first|refine S.condD rfl (fun h23=>?_) (fun h23=>?_)|refine S.condB rfl (fun h23=>?_) (fun h23=>?_)
 ·refine S.seq<|S.region rfl<|O.q 1 rfl<|O.nil ?_
  exact S.rt results5 rfl hR ⟨rfl,rfl⟩
 ·obtain ⟨hl1,_,hl3⟩:=hok1 (by simpa using h23)
  have hT:TreeH g.h Fr.emp s []:=⟨Fr.emp_sub _,TreeOk.nil s,⟨by simp,fun _ h=>by cases h⟩,hH,hK⟩;have hsl:∀ y∈l,y.2.1.length≤10000000:=fun y hy=>by have:=(hl3 y hy).2.1;omega
  refine S.skip<|S.seq<|S.region rfl<|O.q 1 rfl<|O.call0 (.p rfl) rfl zC rfl rfl ((Pick_c _ _ (by constructor<;>decide))) ?_;rintro _ _ ⟨rfl,rfl⟩
  try simp only [zx1,zx2,zx3]
  refine O.slot 25 (v' :=.int .i64 (s:Int)) rfl (by rw [hs']) ?_;refine O.q 1 rfl<|O.nil<|S.seq<|S.region rfl<|O.q 1 rfl<|O.call0 (.p rfl) rfl zC rfl rfl ((new_yes hs4)) ?_;rintro _ _ ⟨b27,rfl,rfl⟩
  try simp only [zx1,zx2,zx3]
  refine O.q 1 rfl<|O.nil (S.seq (S.seq ?_))
  by_cases hE:putE s l=0
  ·have hA0:TreeOk s (putsL [] l):=TreeOk.puts (TreeOk.nil s) (putE_0.1 hE)
   have hAs:=alike_bl (L:=[]) (l:=l) (N:=0) zI zB (fun _ h=>by cases h) hsl zE;have hAl:=putsL_len l [];refine S.region rfl<|O.q 2 rfl<|O.callS (.p rfl) rfl zC rfl rfl zD (tPut_c (b:=b27) hT ha zJ hsl) ?_;rintro _ _ ⟨rfl,rfl⟩
   try simp only [zx1,zx2,zx3]
   refine O.op (.p rfl) (.neq rfl rfl)<|O.sF 31 rfl (by rw [hE];rfl) ?_;refine O.nil<|S.condF rfl<|S.skip (S.seq (S.seq ?_));rw [if_pos hE];rw [List.length_nil,Nat.zero_add] at hAl;obtain ⟨La,hLa⟩:∃ La,La=putsL [] l:=⟨_,rfl⟩;rw [← hLa] at hA0 hAs hAl ⊢;have hTA:TreeH g.h Fr.emp s La:=⟨Fr.emp_sub _,hA0,hAs,hH,hK⟩;have h64:=treeSum_len hA0 [];have hsum0:sumT_q La []=treeSum La []:=by unfold sumT_q;rw [if_pos ⟨by simp,fun c hc=>by cases hc⟩]
   refine S.region rfl<|O.q 1 rfl<|O.callS (.p rfl) rfl zC rfl rfl zD (tTop_c (b:=b27) hTA hs4) ?_;rintro _ _ ⟨a33,c33,rfl,rfl⟩
   try simp only [zx1,zx2,zx3]
   refine O.frzA zD fun g hs hm ha33=>?_;replace hg:=Fr.sub_trans hg hs;replace hR:=melted hR hm
   try replace ha:=ha.mono hs
   try replace hH:=hH.mono hs
   try replace hK:=hK.mono hs
   try replace hT:=hT.mono hs
   try replace hTA:=hTA.mono hs
   clear hs hm;refine O.q 2 rfl<|O.callS (.p rfl) rfl zC rfl rfl zD (tSum_c (b:=b27) (p:=[]) hTA zI) ?_;rintro _ _ ⟨a36,c36,rfl,rfl⟩
   try simp only [zx1,zx2,zx3]
   rw [hsum0];refine O.frzA zD fun g hs hm ha36=>?_;replace hg:=Fr.sub_trans hg hs;replace hR:=melted hR hm
   try replace ha:=ha.mono hs
   try replace hH:=hH.mono hs
   try replace hK:=hK.mono hs
   try replace hT:=hT.mono hs
   try replace hTA:=hTA.mono hs
   try replace ha33:=ha33.mono hs
   clear hs hm;refine O.call0 (.p rfl) rfl zC rfl rfl ((topSum_c ha36 (⟨by omega,by omega⟩:InI64 (s:Int)) hTA.hH hTA.hK zB)) ?_;rintro _ _ ⟨a37,c37,rfl,rfl⟩
   try simp only [zx1,zx2,zx3]
   refine O.frzA zD fun g hs hm ha37=>?_;replace hg:=Fr.sub_trans hg hs;replace hR:=melted hR hm
   try replace ha:=ha.mono hs
   try replace hH:=hH.mono hs
   try replace hK:=hK.mono hs
   try replace hT:=hT.mono hs
   try replace hTA:=hTA.mono hs
   try replace ha33:=ha33.mono hs
   try replace ha36:=ha36.mono hs
   clear hs hm;refine O.call0 (.p rfl) rfl zC rfl rfl ((SameBytes_c ha33 ha37)) ?_;rintro _ _ ⟨rfl,rfl⟩
   try simp only [zx1,zx2,zx3]
   refine O.sT 38 rfl zI ?_;refine O.op (.p rfl) (.not rfl)<|O.nil<|S.condF rfl<|S.skip<|S.seq<|S.region rfl<|O.opE (.p rfl) (.litP (T:=Rp.str) (ys:=[[]]) underlying53 elem9 zE rfl rfl ⟨⟨rfl,by decide⟩,trivial⟩ zE) ?_;rintro _ _ ⟨a40,c40,rfl,rfl⟩;refine O.q 1 rfl<|O.nil<|S.seq<|S.region rfl<|O.q 1 rfl<|O.nil<|S.seq<|S.seq<|S.region rfl<|O.q 1 rfl<|O.nil<|S.block<|S.addNil (T:=Rp.str) (e:=9) ?_;refine S.pk (ζ:=[OwnP Rp.str 9 (.slice a40 1 c40) [[]],OwnP Rp.str 9 (.slice none 0 0) [],TreeX tt Fr.emp b27 s La]) zP ?_;refine S.loopK4 (ι:=Nat) (κ:=List (List UInt8)) (υ:=List (List UInt8)) (τ:=(Option Addr × Nat) × (Option Addr × Nat)) (fun n P met uv=>n≤P.length∧WalkU La met n (P.drop n)) (fun n P met uv=>[(9,.int .i64 (n:Int)),(7,.slice uv.1.1 P.length uv.1.2),(8,.slice uv.2.1 met.length uv.2.2)]) [(6,_)] (fun n P met uv=>[OwnP Rp.str 9 (.slice uv.1.1 P.length uv.1.2) P,OwnP Rp.str 9 (.slice uv.2.1 met.length uv.2.2) met,TreeX tt Fr.emp b27 s La]) (fun n P met uv=>(P.drop n).length+potU La (P.drop n)) (0) ([[]]) ([]) (((a40,c40),(none,0))) (by exact ⟨by simp,WalkU.start La⟩) (.cons rfl (.cons rfl (.cons rfl (.nil)))) (.cons rfl (.nil)) rfl fun n P met uv hx ih=>?_;have hm1:=meltRefl (g:=g);obtain ⟨hn,hW⟩:=hx;have hfew:=hW.few;have hmf:=walk_few hW;have hdl:(P.drop n).length=P.length - n:=List.length_drop ..;have hPl:P.length≤11000:=by omega
   refine S.seq<|S.seq<|S.region rfl<|O.q 2 rfl<|O.op (.p rfl) (.len rfl underlying53 rfl)<|O.op (.p rfl) (.lss rfl rfl)<|O.nil ?_
   first|refine S.condD rfl (fun h44=>?_) (fun h44=>?_)|refine S.condB rfl (fun h44=>?_) (fun h44=>?_)
   ·have hn' :n<P.length:=by omega
    have hdr:P.drop n=P[n]::P.drop (n+1):=List.drop_eq_getElem_cons hn';rw [hdr] at hW ih;have hok:=hW.ok P[n] (List.mem_cons_self ..);obtain ⟨q,hq⟩:∃ q,q=P[n]:=⟨_,rfl⟩;rw [← hq] at hW ih hok;have hql:=hok.1;have e:nodeT La q=treeNode La q:=by unfold nodeT;rw [if_pos hok]
    have e2:nodeE q=0:=by unfold nodeE;rw [if_pos hok]
    have e3:sumT_q La q=treeSum La q:=by unfold sumT_q;rw [if_pos hok]
    have hokn:=treeNode_ok hA0 q;have hsm:=treeNode_small hAs q;have h12:=node_64 hokn;have hlu:=node_leaves_under (L:=La) (q:=q);have hll:(treeNode La q).2.2.2.1.length≤20:=by
     rcases treeNode_leaves La q with k|k
     ·rw [k];simp
     ·rw [k];have:=(underL_sub q La).length_le;omega
    refine S.skip<|S.seq<|S.block<|S.seq<|S.region rfl<|O.q 2 rfl<|O.opE (.p rfl) (.idxOwn (T:=Rp.str) underlying53 size9 rfl rfl (show _=(((n):Nat):Int) by omega) zD zQ) ?_;rintro _ _ ⟨p49,rfl,hp49,rfl⟩;refine O.op (.p rfl) (.loadOwn flat9 rfl hp49 rfl zD zQ ((by rintro _ ⟨rfl,_⟩;rfl))) ?_;refine O.slot 50 (v' :=.string (str q)) rfl (by rw [hq]) ?_;refine O.q 1 rfl<|O.nil<|S.seq<|S.region rfl<|O.q 2 rfl<|O.callS (.p rfl) rfl zC rfl rfl zD (tNode_c (b:=b27) (p:=q) hTA zB) ?_;rintro _ _ ⟨q1,d1,q2,d2,q3,d3,rfl,rfl⟩
    try simp only [zx1,zx2,zx3]
    rw [e,e2];refine O.q 3 rfl<|O.opE (.p rfl) (.alloc (cs:=[.int .u8 0,.slice none 0 0,.slice none 0 0,.slice none 0 0]) zeroValue27 rfl) ?_;rintro _ _ ⟨b11,rfl,rfl⟩;refine O.opU rfl (.storeObj zC rfl rfl rfl rfl zD zM) ?_;refine O.q 1 rfl<|O.nil (S.seq (S.seq ?_));generalize hN:treeNode La q=x at hokn hsm h12 hlu hll ⊢;refine S.frz (A:=OwnP Rp.u8 5 (.slice q1 x.2.1.length d1) x.2.1) zD fun g hs hm ⟨_,x',s'⟩=>?_;have f1:=(fun s x=>x.arr.mono s) s' x';clear x' s';replace hg:=Fr.sub_trans hg hs;replace hR:=melted hR hm
    try replace ha:=ha.mono hs
    try replace hH:=hH.mono hs
    try replace hK:=hK.mono hs
    try replace hT:=hT.mono hs
    try replace hTA:=hTA.mono hs
    try replace ha33:=ha33.mono hs
    try replace ha36:=ha36.mono hs
    try replace ha37:=ha37.mono hs
    replace hm1:=meltTrans hm1 hm;clear hs hm;refine S.frz (A:=OwnP Rp.u8 5 (.slice q2 x.2.2.1.length d2) x.2.2.1) zD fun g hs hm ⟨_,x',s'⟩=>?_;have f2:=(fun s x=>x.arr.mono s) s' x';clear x' s';replace hg:=Fr.sub_trans hg hs;replace hR:=melted hR hm
    try replace ha:=ha.mono hs
    try replace hH:=hH.mono hs
    try replace hK:=hK.mono hs
    try replace hT:=hT.mono hs
    try replace hTA:=hTA.mono hs
    try replace ha33:=ha33.mono hs
    try replace ha36:=ha36.mono hs
    try replace ha37:=ha37.mono hs
    try replace f1:=f1.mono hs
    replace hm1:=meltTrans hm1 hm;clear hs hm;refine S.frz (A:=ListP (LeafG tys) 31 (.slice q3 x.2.2.2.1.length d3) x.2.2.2.1) zD fun g hs hm ⟨_,x',s'⟩=>?_;have f3:=(fun s x=>(ListP.arr x).mono s) s' x';clear x' s';replace hg:=Fr.sub_trans hg hs;replace hR:=melted hR hm
    try replace ha:=ha.mono hs
    try replace hH:=hH.mono hs
    try replace hK:=hK.mono hs
    try replace hT:=hT.mono hs
    try replace hTA:=hTA.mono hs
    try replace ha33:=ha33.mono hs
    try replace ha36:=ha36.mono hs
    try replace ha37:=ha37.mono hs
    try replace f1:=f1.mono hs
    try replace f2:=f2.mono hs
    replace hm1:=meltTrans hm1 hm;clear hs hm;refine S.frz (A:=obj b11 27 [byteV x.1,.slice q1 x.2.1.length d1,.slice q2 x.2.2.1.length d2,.slice q3 x.2.2.2.1.length d3]) zD fun g hs hm ⟨_,x',s'⟩=>?_;have f11:=(fun s x=>(obj_at x).mono s) s' x';clear x' s';replace hg:=Fr.sub_trans hg hs;replace hR:=melted hR hm
    try replace ha:=ha.mono hs
    try replace hH:=hH.mono hs
    try replace hK:=hK.mono hs
    try replace hT:=hT.mono hs
    try replace hTA:=hTA.mono hs
    try replace ha33:=ha33.mono hs
    try replace ha36:=ha36.mono hs
    try replace ha37:=ha37.mono hs
    try replace f1:=f1.mono hs
    try replace f2:=f2.mono hs
    try replace f3:=f3.mono hs
    replace hm1:=meltTrans hm1 hm;clear hs hm;have hsx:nodeSumP x=treeSum La q:=by rw [← hN];exact treeSum_eq La q
    refine S.region rfl<|O.q 1 rfl<|O.op (.p rfl) (.neq rfl rfl)<|O.sF 58 rfl zF ?_;refine O.q 1 rfl<|O.op (.g rfl rfl) (.loadAgg isAgg27 zC rfl f11) ?_;refine O.call0 (.g rfl rfl) rfl zC rfl rfl ((nodeSum_c (x:=x) (NodeRp.mk f1 f2 f3) h12 hsm hTA.hH hTA.hK)) ?_;rintro _ _ ⟨a61,c61,rfl,rfl⟩
    try simp only [zx1,zx2,zx3]
    refine O.frzA zD fun g hs hm ha61=>?_;replace hg:=Fr.sub_trans hg hs;replace hR:=melted hR hm
    try replace ha:=ha.mono hs
    try replace hH:=hH.mono hs
    try replace hK:=hK.mono hs
    try replace hT:=hT.mono hs
    try replace hTA:=hTA.mono hs
    try replace ha33:=ha33.mono hs
    try replace ha36:=ha36.mono hs
    try replace ha37:=ha37.mono hs
    try replace f1:=f1.mono hs
    try replace f2:=f2.mono hs
    try replace f3:=f3.mono hs
    try replace f11:=f11.mono hs
    try replace f1:=f1.mono hs
    try replace f2:=f2.mono hs
    try replace f3:=f3.mono hs
    try replace f11:=f11.mono hs
    replace hm1:=meltTrans hm1 hm;clear hs hm;refine O.q 2 rfl<|O.callS (.g rfl rfl) rfl zC rfl rfl zD (tSum_c (b:=b27) (p:=q) hTA zB) ?_;rintro _ _ ⟨a64,c64,rfl,rfl⟩
    try simp only [zx1,zx2,zx3]
    refine O.frzA zD fun g hs hm ha64=>?_;replace hg:=Fr.sub_trans hg hs;replace hR:=melted hR hm
    try replace ha:=ha.mono hs
    try replace hH:=hH.mono hs
    try replace hK:=hK.mono hs
    try replace hT:=hT.mono hs
    try replace hTA:=hTA.mono hs
    try replace ha33:=ha33.mono hs
    try replace ha36:=ha36.mono hs
    try replace ha37:=ha37.mono hs
    try replace f1:=f1.mono hs
    try replace f2:=f2.mono hs
    try replace f3:=f3.mono hs
    try replace f11:=f11.mono hs
    try replace f1:=f1.mono hs
    try replace f2:=f2.mono hs
    try replace f3:=f3.mono hs
    try replace f11:=f11.mono hs
    try replace ha61:=ha61.mono hs
    replace hm1:=meltTrans hm1 hm;clear hs hm;refine O.call0 (.g rfl rfl) rfl zC rfl rfl ((SameBytes_c ha61 ha64)) ?_;rintro _ _ ⟨rfl,rfl⟩
    try simp only [zx1,zx2,zx3]
    refine O.sT 65 rfl (by exact decide_eq_true (by rw [hsx,e3])) ?_;refine O.op (.g rfl rfl) (.not rfl)<|O.q 1 rfl<|O.nil<|S.condF rfl<|S.skip<|S.seq<|S.seq<|S.region rfl<|O.q 1 rfl<|O.nil<|S.block<|S.ownIs (T:=Rp.str) (e:=9) (v:=.slice uv.2.1 met.length uv.2.2) (xs:=met) (v' :=.slice uv.2.1 (met++(x.2.2.2.1.take 0).map (·.1)).length uv.2.2) (xs' :=met++(x.2.2.2.1.take 0).map (·.1)) zD zI zI ?_;refine S.slot 8 (v' :=.slice uv.2.1 (met++(x.2.2.2.1.take 0).map (·.1)).length uv.2.2) rfl zI ?_;refine S.pk (ζ:=[OwnP Rp.str 9 (.slice uv.1.1 P.length uv.1.2) P,OwnP Rp.str 9 (.slice uv.2.1 (met++(x.2.2.2.1.take 0).map (·.1)).length uv.2.2) (met++(x.2.2.2.1.take 0).map (·.1)),TreeX tt Fr.emp b27 s La]) zP ?_;refine S.loopK2 (ι:=Nat) (κ:=Option Addr × Nat) (fun j v=>j≤x.2.2.2.1.length) (fun j v=>[(13,.int .i64 (j:Int)),(8,.slice v.1 (met++(x.2.2.2.1.take j).map (·.1)).length v.2)]) [(6,_),(7,_),(9,_),(10,_),(11,_)] (fun j v=>[OwnP Rp.str 9 (.slice uv.1.1 P.length uv.1.2) P,OwnP Rp.str 9 (.slice v.1 (met++(x.2.2.2.1.take j).map (·.1)).length v.2) (met++(x.2.2.2.1.take j).map (·.1)),TreeX tt Fr.emp b27 s La]) (fun j v=>x.2.2.2.1.length - j) (0) (uv.2) zI (.cons rfl (.cons rfl (.nil))) (.cons rfl (.cons rfl (.cons rfl (.cons rfl (.cons rfl (.nil)))))) rfl fun j v hx ih=>?_;have hm2:=meltRefl (g:=g)
    refine S.seq<|S.seq<|S.region rfl<|O.q 1 rfl<|O.op (.p rfl) (.fieldAddr fld27x3 rfl)<|O.op (.p rfl) (.loadAt flat25 rfl (f11.drop 3) rfl) ?_;refine O.op (.p rfl) (.len rfl underlying25 rfl)<|O.op (.p rfl) (.lss rfl rfl)<|O.nil ?_
    first|refine S.condD rfl (fun h72=>?_) (fun h72=>?_)|refine S.condB rfl (fun h72=>?_) (fun h72=>?_)
    ·have hj:j<x.2.2.2.1.length:=by omega
     have hyu:=hlu _ (List.getElem_mem hj);have hyL:=(underL_sub q La).subset hyu;have hyp:q.isPrefixOf (wayOf x.2.2.2.1[j].1)=true:=(List.mem_filter.1 hyu).2;have hyk:=(hA0.1 _ hyL).1.1.2;have hyg:=getL_yes hA0.2 hyL;have hsn:met++(x.2.2.2.1.take j).map (·.1)++[x.2.2.2.1[j].1]=met++(x.2.2.2.1.take (j+1)).map (·.1):=by rw [List.take_succ_eq_append_getElem hj,List.map_append,List.append_assoc];rfl
     have hml:(met++(x.2.2.2.1.take j).map (·.1)).length≤100:=by simp;omega
     have hw510:=wayOf_len x.2.2.2.1[j].1;refine S.skip<|S.seq<|S.block<|S.seq<|S.region rfl<|O.op (.p rfl) (.fieldAddr fld27x3 rfl)<|O.op (.p rfl) (.loadAt flat25 rfl (f11.drop 3) rfl) ?_;refine O.q 1 rfl<|O.ia (.p rfl) underlying25 size31 rfl rfl (show _=(((j):Nat):Int) by omega) (f3) (h:=fun p78 cs78 hp78 hr78=>?_);obtain ⟨l1,m1,rfl,l2,l3⟩:=LeafRp.sh hr78;refine O.op (.p rfl) (.fieldAddr fld31x0 rfl)<|O.op (.p rfl) (.loadAt flat9 rfl hp78 rfl) ?_;refine O.call0 (.p rfl) rfl zC rfl rfl ((shBits_c hTA.hH hTA.hK zB)) ?_;rintro _ _ ⟨rfl,rfl⟩
     try simp only [zx1,zx2,zx3]
     refine O.q 1 rfl<|O.nil<|S.seq<|S.seq<|S.regionD (L:=[0,1,2,3,4,5,6,7,8,9,10,11,12,13,14,15,16,17,18,19,20,22,23,24,25,26,27,21,28,29,30]) F.mixed zC<|OD.q 1 rfl<|.quiet (.p rfl) rfl (fun _=>.lenS rfl underlying9 rfl)<|OD.q 1 rfl<|.quiet (.p rfl) rfl (fun _=>.lenS rfl underlying9 rfl)<|.quiet (.p rfl) rfl (fun _=>.lss rfl rfl)<|OD.sF 86 rfl (by exact decide_eq_false zJ) ?_;refine OD.q 3 rfl<|.quiet (.g rfl rfl) rfl (fun _=>.lenS rfl underlying9 rfl)<|.quiet (.g rfl rfl) rfl (fun _=>.strTo (xs:=wayOf x.2.2.2.1[j].1) (b:=q.length) underlying9 rfl rfl (by first|rfl|simp) zB) ?_;refine OD.slot 91 (v' :=.string (str q)) rfl (by rw [pre_take hyp]) ?_;refine OD.q 1 rfl<|.quiet (.g rfl rfl) rfl (fun _=>.neqS rfl rfl)<|OD.sF 93 rfl zI ?_;refine OD.q 3 rfl<|.quiet (.g rfl rfl) rfl (fun _=>.fieldAddr fld27x3 rfl)<|.quiet (.g rfl rfl) rfl (fun _=>.loadAt flat25 rfl (f11.drop 3) rfl) ?_;refine OD.q 1 rfl<|OD.ia (.g rfl rfl) underlying25 size31 rfl rfl (show _=(((j):Nat):Int) by omega) (f3) (h:=fun p100 cs100 hp100 hr100=>?_);obtain ⟨l4,m4,rfl,l5,l6⟩:=LeafRp.sh hr100;refine .quiet (.g rfl rfl) rfl (fun _=>.fieldAddr fld31x0 rfl)<|.quiet (.g rfl rfl) rfl (fun _=>.loadAt flat9 rfl hp100 rfl) ?_;refine .quiet (.g rfl rfl) rfl (fun _=>.fieldAddr fld27x3 rfl)<|.quiet (.g rfl rfl) rfl (fun _=>.loadAt flat25 rfl (f11.drop 3) rfl) ?_
     refine OD.q 1 rfl<|OD.ia (.g rfl rfl) underlying25 size31 rfl rfl (show _=(((j):Nat):Int) by omega) (f3) (h:=fun p107 cs107 hp107 hr107=>?_);obtain ⟨l7,m7,rfl,l8,l9⟩:=LeafRp.sh hr107;refine .quiet (.g rfl rfl) rfl (fun _=>.fieldAddr fld31x1 rfl)<|.quiet (.g rfl rfl) rfl (fun _=>.loadAt flat22 rfl (hp107.drop 1) rfl) ?_;refine OD.callS (.g rfl rfl) zC rfl zC rfl rfl zD (tGet_c (b:=b27) (p:=x.2.2.2.1[j].1) hTA) ?_;rintro _ _ ⟨a103,c103,rfl,rfl⟩
     try simp only [zx1,zx2,zx3]
     rw [hyg];refine OD.callB (.g rfl rfl) zC rfl zC rfl rfl (bs:=[ListP (RecG tys) 102 (.slice a103 x.2.2.2.1[j].2.1.length c103) x.2.2.2.1[j].2.1]) zG (fun m hm hd=>sameRecords_c ((list_one hm).mono (Fr.sub_add_right hd)) (l9.mono (Fr.sub_add_left _ _))) ?_;rintro _ _ ⟨rfl,rfl⟩
     try simp only [zx1,zx2,zx3]
     refine OD.sT 110 rfl zI ?_;refine .quiet (.g rfl rfl) rfl (fun _=>.not rfl)<|OD.q 1 rfl<|ODx.nil<|S.condF rfl<|S.skip<|S.region rfl<|O.q 1 rfl<|O.op (.p rfl) (.fieldAddr fld27x3 rfl)<|O.op (.p rfl) (.loadAt flat25 rfl (f11.drop 3) rfl) ?_;refine O.q 1 rfl<|O.ia (.p rfl) underlying25 size31 rfl rfl (show _=(((j):Nat):Int) by omega) (f3) (h:=fun p117 cs117 hp117 hr117=>?_);obtain ⟨l10,m10,rfl,l11,l12⟩:=LeafRp.sh hr117;refine O.op (.p rfl) (.fieldAddr fld31x0 rfl)<|O.op (.p rfl) (.loadAt flat9 rfl hp117 rfl) ?_;refine O.opE (.p rfl) (.litP (T:=Rp.str) (ys:=[_]) underlying53 elem9 zE rfl rfl ⟨⟨rfl,by first|omega|(simp;done)|(simp;omega)|decide⟩,trivial⟩ zE) ?_;rintro _ _ ⟨a120,c120,rfl,rfl⟩;refine O.opE (.p rfl) (.appendO (T:=Rp.str) underlying53 elem9 zE rfl rfl zD zD zH zH) ?_;rintro _ _ ⟨a121,c121,rfl,rfl⟩;refine O.q 1 rfl<|O.nil (S.inBlock ?_);rw [hsn];rw [show (met++(x.2.2.2.1.take j).map (·.1)).length+[x.2.2.2.1[j].1].length=(met++(x.2.2.2.1.take (j+1)).map (·.1)).length from by rw [← hsn];simp;omega];refine S.region rfl<|O.q 1 rfl<|O.op (.p rfl) (.add rfl rfl (IntWalk.i64_in _ zB))<|O.q 1 rfl<|O.nil ?_;exact S.pw (ih (j+1) ((a121,c121)) zB zB)
    ·clear ih
     have hj:j=x.2.2.2.1.length:=by omega
     subst hj;rw [List.take_length]
     by_cases h2:2≤(underL q La).length∧q.length<510
     ·have hx:=treeNode_split h2.1 h2.2
      rw [hN] at hx;subst hx;have hWs:=hW.split h2.2 h2.1;have hms:=walk_ms (R:=P.drop (n+1)) h2.2 h2.1;have hp0:=pathOk_add hok h2.2 (z:=48) (.inl rfl);have hp1:=pathOk_add hok h2.2 (z:=49) (.inr rfl);have s0:sumT_q La (q++[48])=treeSum La (q++[48]):=by unfold sumT_q;rw [if_pos hp0]
      have s1:sumT_q La (q++[49])=treeSum La (q++[49]):=by unfold sumT_q;rw [if_pos hp1]
      have hqs:(str q).size=q.length:=str_size_q q;have h48:(ByteArray.mk #[48]).size=1:=rfl;have h49:(ByteArray.mk #[49]).size=1:=rfl;have hda:(P++[q++[48],q++[49]]).drop (n+1)=P.drop (n+1)++[q++[48],q++[49]]:=List.drop_append_of_le_length zB;refine S.exit rfl<|S.seq<|S.region rfl<|O.op (.p rfl) (.fieldAddr fld27x0 rfl)<|O.op (.p rfl) (.loadAt flat23 rfl f11 rfl) ?_;refine O.op (.p rfl) (.eql rfl rfl)<|O.sT 124 rfl zF ?_;refine O.nil<|S.condT rfl<|S.seq<|S.seq<|S.regionD (L:=[0,1,2,3,4,5,6,7,8,9,10,11,12,13,14,15,16,17]) F.mixed zC<|.quiet (.p rfl) rfl (fun _=>.fieldAddr fld27x1 rfl)<|.quiet (.p rfl) rfl (fun _=>.loadAt flat24 rfl (f11.drop 1) rfl) ?_;refine OD.q 2 rfl<|.quiet (.p rfl) rfl (fun _=>.addS rfl rfl zB)<|OD.slot 129 (v' :=.string (str (q++[48]))) rfl (by exact congrArg Value.string (str_add q [48])) ?_;refine OD.callS (.p rfl) zC rfl zC rfl rfl zD (tSum_c (b:=b27) (p:=q++[48]) hTA zJ) ?_;rintro _ _ ⟨a130,c130,rfl,rfl⟩
      try simp only [zx1,zx2,zx3]
      refine OD.callB (.p rfl) zC rfl zC rfl rfl (bs:=[OwnP Rp.u8 5 (.slice a130 (sumT_q La (q++[48])).length c130) (sumT_q La (q++[48]))]) zG (fun m hm hd=>SameBytes_c (f1.mono (Fr.sub_add_left _ _)) ((Sat.arr hm).mono (Fr.sub_add_right hd))) ?_;rintro _ _ ⟨rfl,rfl⟩
      try simp only [zx1,zx2,zx3]
      refine OD.sT 131 rfl (by exact decide_eq_true s0.symm) ?_;refine .quiet (.p rfl) rfl (fun _=>.not rfl)<|OD.q 1 rfl<|.quiet (.g rfl rfl) rfl (fun _=>.fieldAddr fld27x2 rfl)<|.quiet (.g rfl rfl) rfl (fun _=>.loadAt flat24 rfl (f11.drop 2) rfl) ?_;refine OD.q 2 rfl<|.quiet (.g rfl rfl) rfl (fun _=>.addS rfl rfl zB)<|OD.slot 138 (v' :=.string (str (q++[49]))) rfl (by exact congrArg Value.string (str_add q [49])) ?_;refine OD.callS (.g rfl rfl) zC rfl zC rfl rfl zD (tSum_c (b:=b27) (p:=q++[49]) hTA zJ) ?_;rintro _ _ ⟨a139,c139,rfl,rfl⟩
      try simp only [zx1,zx2,zx3]
      refine OD.callB (.g rfl rfl) zC rfl zC rfl rfl (bs:=[OwnP Rp.u8 5 (.slice a139 (sumT_q La (q++[49])).length c139) (sumT_q La (q++[49]))]) zG (fun m hm hd=>SameBytes_c (f2.mono (Fr.sub_add_left _ _)) ((Sat.arr hm).mono (Fr.sub_add_right hd))) ?_;rintro _ _ ⟨rfl,rfl⟩
      try simp only [zx1,zx2,zx3]
      refine OD.sT 140 rfl (by exact decide_eq_true s1.symm) ?_;refine .quiet (.g rfl rfl) rfl (fun _=>.not rfl)<|OD.q 1 rfl<|ODx.nil<|S.condF rfl<|S.skip<|S.region rfl<|O.q 2 rfl<|O.op (.p rfl) (.addS rfl rfl zB)<|O.slot 145 (v' :=.string (str (q++[48]))) rfl (by exact congrArg Value.string (str_add q [48])) ?_;refine O.q 1 rfl<|O.op (.p rfl) (.addS rfl rfl zB)<|O.slot 147 (v' :=.string (str (q++[49]))) rfl (by exact congrArg Value.string (str_add q [49])) ?_;refine O.opE (.p rfl) (.litP (T:=Rp.str) (ys:=[q++[48],q++[49]]) underlying53 elem9 zE rfl rfl ⟨⟨rfl,by simp;omega⟩,⟨rfl,by simp;omega⟩,trivial⟩ zE) ?_;rintro _ _ ⟨a148,c148,rfl,rfl⟩;refine O.opE (.p rfl) (.appendO (T:=Rp.str) underlying53 elem9 zE rfl rfl zD zD zJ zJ) ?_;rintro _ _ ⟨a149,c149,rfl,rfl⟩;refine O.q 1 rfl<|O.nil<|S.inBlock<|S.region rfl<|O.q 1 rfl<|O.op (.p rfl) (.add rfl rfl (IntWalk.i64_in _ zB))<|O.q 1 rfl<|O.nil ?_;rw [show P.length+[q++[48],q++[49]].length=(P++[q++[48],q++[49]]).length from by simp];simp only [List.map_nil,List.append_nil];exact S.melt hm1 (S.pw (ih (n+1) (P++[q++[48],q++[49]]) (met) (((a149,c149),v)) (by exact ⟨by simp;omega,by rw [hda];exact hWs⟩) (by rw [hda];exact hms)))
     ·obtain ⟨k1,k2⟩:=node_flat h2 hql
      rw [hN] at k1 k2;rw [k1];have hWf:=hW.flat;refine S.exit rfl<|S.seq<|S.region rfl<|O.op (.p rfl) (.fieldAddr fld27x0 rfl)<|O.op (.p rfl) (.loadAt flat23 rfl f11 rfl) ?_;refine O.op (.p rfl) (.eql rfl rfl)<|O.sF 124 rfl (by exact decide_eq_false (u8_ne k2)) ?_;refine O.nil<|S.condF rfl<|S.skip<|S.inBlock<|S.region rfl<|O.q 1 rfl<|O.op (.p rfl) (.add rfl rfl (IntWalk.i64_in _ zB))<|O.q 1 rfl<|O.nil ?_;exact S.melt hm1 (S.pw (ih (n+1) (P) (met++(underL q La).map (·.1)) ((uv.1,v)) (by exact ⟨by omega,hWf⟩) (by rw [potU_cons,List.length_cons];omega)))
   ·clear ih
    have hn' :n=P.length:=by omega
    subst hn';rw [List.drop_length] at hW;have hperm:=hW.done;have hlen:met.length=La.length:=by have:=hperm.length_eq;rwa [List.length_map] at this
    refine S.exit rfl<|S.seq<|S.region rfl<|O.q 1 rfl<|O.callB (.p rfl) rfl zC rfl rfl (bs:=[TreeX tt Fr.emp b27 s La]) zG (fun m hm hd=>tLeaves_c (TreeX.lent hTA.hd hd hm) hA0 hTA.small) ?_;rintro _ _ ⟨a151,c151,rfl,rfl⟩
    try simp only [zx1,zx2,zx3]
    refine O.q 1 rfl<|O.nil<|S.seq<|S.seq<|S.frzG (T:=LeafRp) rfl zD fun g hs hm hV=>?_;replace hg:=Fr.sub_trans hg hs;replace hR:=melted hR hm
    try replace ha:=ha.mono hs
    try replace hH:=hH.mono hs
    try replace hK:=hK.mono hs
    try replace hT:=hT.mono hs
    try replace hTA:=hTA.mono hs
    try replace ha33:=ha33.mono hs
    try replace ha36:=ha36.mono hs
    try replace ha37:=ha37.mono hs
    replace hm1:=meltTrans hm1 hm;clear hs hm;refine S.frz (A:=OwnP Rp.str 9 (.slice uv.2.1 met.length uv.2.2) met) zD fun g hs hm ⟨_,x',s'⟩=>?_;have hmt:=(fun s x=>x.arr.mono s) s' x';clear x' s';replace hg:=Fr.sub_trans hg hs;replace hR:=melted hR hm
    try replace ha:=ha.mono hs
    try replace hH:=hH.mono hs
    try replace hK:=hK.mono hs
    try replace hT:=hT.mono hs
    try replace hTA:=hTA.mono hs
    try replace ha33:=ha33.mono hs
    try replace ha36:=ha36.mono hs
    try replace ha37:=ha37.mono hs
    try replace hV:=hV.mono hs
    replace hm1:=meltTrans hm1 hm;clear hs hm;refine S.imp (η' :=[]) (fun _ _=>trivial) ?_;refine S.region rfl<|O.q 1 rfl<|O.op (.p rfl) (.len rfl underlying53 rfl)<|O.q 1 rfl<|O.op (.p rfl) (.len rfl underlying25 rfl)<|O.op (.p rfl) (.neq rfl rfl)<|O.sF 156 rfl (by exact decide_eq_false zB) ?_;refine O.nil<|S.condF rfl<|S.skip<|S.seq<|S.seq<|S.region rfl<|O.q 1 rfl<|O.nil<|S.block<|S.loopK (ι:=Nat) (fun i=>i≤La.length) (fun i=>[(16,.int .i64 (i:Int))]) [(8,_),(15,_)] (fun i=>[]) (fun i=>La.length - i) (0) zI (.cons rfl (.nil)) (.cons rfl (.cons rfl (.nil))) rfl fun i hx ih=>?_;have hm2:=meltRefl (g:=g);refine S.seq<|S.seq<|S.region rfl<|O.q 2 rfl<|O.op (.p rfl) (.len rfl underlying25 rfl)<|O.op (.p rfl) (.lss rfl rfl)<|O.nil ?_
    first|refine S.condD rfl (fun h160=>?_) (fun h160=>?_)|refine S.condB rfl (fun h160=>?_) (fun h160=>?_)
    ·have hi:i<La.length:=by omega
     have h1:=foundU_one hA0.2 hperm (List.getElem_mem hi);refine S.skip<|S.seq<|S.block<|S.seq<|S.region rfl<|O.q 1 rfl<|O.nil<|S.seq<|S.seq<|S.region rfl<|O.q 1 rfl<|O.nil<|S.block<|S.slot 17 (v' :=.int .i64 (foundU met La[i].1 0:Int)) rfl rfl ?_;refine S.loopK (ι:=Nat) (fun j=>j≤met.length) (fun j=>[(18,.int .i64 (j:Int)),(17,.int .i64 (foundU met La[i].1 j:Int))]) [(8,_),(15,_),(16,_)] (fun j=>[]) (fun j=>met.length - j) (0) zI (.cons rfl (.cons rfl (.nil))) (.cons rfl (.cons rfl (.cons rfl (.nil)))) rfl fun j hx ih=>?_;have hm3:=meltRefl (g:=g);refine S.seq<|S.seq<|S.region rfl<|O.q 2 rfl<|O.op (.p rfl) (.len rfl underlying53 rfl)<|O.op (.p rfl) (.lss rfl rfl)<|O.nil ?_
     first|refine S.condD rfl (fun h166=>?_) (fun h166=>?_)|refine S.condB rfl (fun h166=>?_) (fun h166=>?_)
     ·have hj:j<met.length:=by omega
      have hfs:=foundU_succ (k:=La[i].1) hj;have hfl:=foundU_le met La[i].1 j
      by_cases qq:met[j]=La[i].1
      ·rw [if_pos qq] at hfs
       refine S.skip<|S.seq<|S.block<|S.seq<|S.regionD (L:=[0,1,2,3,4,5,6,7,8,9]) F.mixed zC<|OD.q 2 rfl<|OD.ia (.p rfl) underlying53 size9 rfl rfl (show _=(((j):Nat):Int) by omega) (hmt) (h:=fun p171 cs171 hp171 hr171=>?_);obtain ⟨rfl,_⟩:=hr171;refine .quiet (.p rfl) rfl (fun _=>.loadAt flat9 rfl hp171 rfl) ?_;refine OD.q 2 rfl<|OD.ia (.p rfl) underlying25 size31 rfl rfl (show _=(((i):Nat):Int) by omega) (hV) (h:=fun p175 cs175 hp175 hr175=>?_);obtain ⟨l1,m1,rfl,l2,l3⟩:=LeafRp.sh hr175;refine .quiet (.p rfl) rfl (fun _=>.fieldAddr fld31x0 rfl)<|.quiet (.p rfl) rfl (fun _=>.loadAt flat9 rfl hp175 rfl) ?_;refine .quiet (.p rfl) rfl (fun _=>.eqlS rfl rfl)<|OD.sT 178 rfl (by simp [qq]) ?_;refine ODx.nil<|S.condT rfl<|S.region rfl<|O.q 1 rfl<|O.op (.p rfl) (.add rfl rfl (IntWalk.i64_in _ zB))<|O.q 1 rfl<|O.nil (S.inBlock ?_);rw [show (foundU met La[i].1 j:Int)+1=(foundU met La[i].1 (j+1):Int) by omega];refine S.region rfl<|O.q 1 rfl<|O.op (.p rfl) (.add rfl rfl (IntWalk.i64_in _ zB))<|O.q 1 rfl<|O.nil ?_;exact S.wk (ih (j+1) zB zB)
      ·have hfs' :foundU met La[i].1 (j+1)=foundU met La[i].1 j:=by rw [foundU_succ hj,if_neg qq];rfl
       refine S.skip<|S.seq<|S.block<|S.seq<|S.regionD (L:=[0,1,2,3,4,5,6,7,8,9]) F.mixed zC<|OD.q 2 rfl<|OD.ia (.p rfl) underlying53 size9 rfl rfl (show _=(((j):Nat):Int) by omega) (hmt) (h:=fun p171 cs171 hp171 hr171=>?_);obtain ⟨rfl,_⟩:=hr171;refine .quiet (.p rfl) rfl (fun _=>.loadAt flat9 rfl hp171 rfl) ?_;refine OD.q 2 rfl<|OD.ia (.p rfl) underlying25 size31 rfl rfl (show _=(((i):Nat):Int) by omega) (hV) (h:=fun p175 cs175 hp175 hr175=>?_);obtain ⟨l1,m1,rfl,l2,l3⟩:=LeafRp.sh hr175;refine .quiet (.p rfl) rfl (fun _=>.fieldAddr fld31x0 rfl)<|.quiet (.p rfl) rfl (fun _=>.loadAt flat9 rfl hp175 rfl) ?_;refine .quiet (.p rfl) rfl (fun _=>.eqlS rfl rfl)<|OD.sF 178 rfl (by exact decide_eq_false (fun e=>qq (str_eqL e))) ?_;refine ODx.nil<|S.condF rfl<|S.skip (S.inBlock ?_);rw [← hfs'];refine S.region rfl<|O.q 1 rfl<|O.op (.p rfl) (.add rfl rfl (IntWalk.i64_in _ zB))<|O.q 1 rfl<|O.nil ?_;exact S.wk (ih (j+1) zB zB)
     ·clear ih
      have hj:j=met.length:=by omega
      subst hj;rw [h1];refine S.exit rfl<|S.seq<|S.region rfl<|O.q 1 rfl<|O.op (.p rfl) (.neq rfl rfl)<|O.sF 182 rfl zF ?_;refine O.nil<|S.condF rfl<|S.skip<|S.inBlock<|S.region rfl<|O.q 1 rfl<|O.op (.p rfl) (.add rfl rfl (IntWalk.i64_in _ zB))<|O.q 1 rfl<|O.nil ?_;exact S.wk (ih (i+1) zB zB)
    ·clear ih
     refine S.exit rfl<|S.seq<|S.region rfl<|O.q 1 rfl<|O.nil ?_;exact S.rt results5 rfl hR ⟨rfl,rfl⟩
  ·
   refine S.region rfl<|O.q 2 rfl<|O.callS (.p rfl) rfl zC rfl rfl zD (tPut_c (b:=b27) hT ha zJ hsl) ?_;rintro _ _ ⟨rfl,rfl⟩
   try simp only [zx1,zx2,zx3]
   refine O.op (.p rfl) (.neq rfl rfl)<|O.sT 31 rfl (by exact decide_eq_true hE) ?_;refine O.nil<|S.condT rfl<|S.seq<|S.region rfl<|O.q 1 rfl<|O.nil ?_;exact S.rt results5 rfl hR ⟨rfl,rfl⟩
end Go.Proofs.YtojafegjlahajaaGreatDoor
