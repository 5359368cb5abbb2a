/- Texts of this proof. -/
import Derived.Test.YtojafegjlahajaaGreatDoorQTree6
open Go Go.Sp Go.Proofs.Tryz
set_option maxRecDepth 100000
set_option maxHeartbeats 1000000
attribute [local irreducible] obj Own OwnP
namespace Go.Proofs.YtojafegjlahajaaGreatDoor
attribute [local irreducible] treeNode treeSum
theorem node_all {d:Fr} {s:Nat} {L:List LeafT}:∀ n,NodeC d s L n
 |0=>node_of fun k hk=>by omega
 |n+1=>node_of fun k hk=>by
  have e:k=n:=by omega
  subst e;exact sum_of (node_all k)
theorem sum_all {d:Fr} {s:Nat} {L:List LeafT} (n:Nat):SumC d s L n:=sum_of (node_all n)
noncomputable def sumT_q (L:List LeafT) (p:List UInt8):List UInt8:=if pathOk p then treeSum L p else []
theorem tSum_c {r d:Fr} {b s:Nat} {L:List LeafT} {p:List UInt8} (hT:TreeH r d s L) (hl:p.length≤9223372036854775807) :
  Con prog 33 #[.pointer (some ⟨b,0,none⟩),.string (str p)] r [TreeX tt d b s L] (Ret fun v η=>∃ a c,v=.slice a (sumT_q L p).length c∧η=[TreeX tt d b s L,OwnP Rp.u8 5 (.slice a (sumT_q L p).length c) (sumT_q L p)]):=by
 refine Con.of (n:=26) _ rfl func33 rfl rfl rfl fun g hg R hR=>?_;have hT:=hT.mono hg;have hbL:L.length≤10000000:=hT.small.1
 by_cases hp:pathOk p
 ·have e:sumT_q L p=treeSum L p:=by unfold sumT_q;rw [if_pos hp]
  have h64:=treeSum_len hT.ok p;have hpl:=hp.1;have hul:=underI_len L p (List.range L.length);rw [List.length_range] at hul;have hau:atL L (underI L p (List.range L.length))=underL p L:=by rw [atL_under L p _ (range_lt L),range_atL]
  rw [e] at hR;refine S.seq<|S.region rfl<|O.q 1 rfl<|O.nil<|S.seq<|S.seq<|S.region rfl<|O.q 1 rfl<|O.callB (.p rfl) rfl zD rfl rfl (bs:=[TreeX tt d b s L]) zJ (fun m hm hd=>there_yes (TreeX.lent hT.hd hd hm)) ?_;rintro _ _ ⟨rfl,rfl⟩
  try simp only [zx1,zx2,zx3]
  refine O.sT 6 rfl zG ?_;refine O.op (.p rfl) (.not rfl)<|O.q 2 rfl<|O.call0 (.g rfl rfl) rfl zD rfl rfl ((mpath_c hl)) ?_;rintro _ _ ⟨rfl,rfl⟩
  try simp only [zx1,zx2,zx3]
  refine O.sT 10 rfl (by exact decide_eq_true hp) ?_;refine O.op (.g rfl rfl) (.not rfl)<|O.q 1 rfl<|O.nil<|S.condF rfl<|S.skip<|S.seq<|S.regionD (L:=[0,1,2,3,4,5,6,7,8,9,10,11,12,13]) mixedF zD<|OD.q 3 rfl<|.quiet (.p rfl) rfl (fun _=>.nilCheck rfl)<|.quiet (.p rfl) rfl (fun _=>.fieldAddr fld77x0 rfl)<|OD.q 2 rfl<|.quiet (.p rfl) rfl (fun _=>.nilCheck rfl)<|.quiet (.p rfl) rfl (fun _=>.fieldAddr fld77x0 rfl)<|OD.callB (.p rfl) zD rfl zD rfl rfl (bs:=[TreeX tt d b s L]) zJ (fun m hm hd=>all_c (TreeX.lent hT.hd hd hm) hbL) ?_;rintro _ _ ⟨a22,c22,rfl,rfl⟩
  try simp only [zx1,zx2,zx3]
  refine OD.callB (.p rfl) zD rfl zD rfl rfl (bs:=[TreeX tt d b s L,OwnP Rp.nat 3 (.slice a22 L.length c22) (List.range L.length)]) zJ (fun m hm hd=>under_c (TreeX.lent hT.hd hd hm) ((owned_snd hm).mono (Fr.sub_add_right hd)) (range_lt L) hl zK) ?_;rintro _ _ ⟨a23,c23,rfl,rfl⟩
  try simp only [zx1,zx2,zx3]
  refine OD.callSs (.p rfl) zD rfl zD rfl rfl (bs:=[TreeX tt d b s L,OwnP Rp.nat 3 (.slice a23 (underI L p (List.range L.length)).length c23) (underI L p (List.range L.length))]) zJ (Con.lentD (η:=[TreeX tt d b s L]) (bs:=[OwnP Rp.nat 3 (.slice a23 (underI L p (List.range L.length)).length c23) (underI L p (List.range L.length))]) (fun m hm hd=>sum_all (510 - p.length) (hT.mono (Fr.sub_add_left _ _)) zC hp ((owned_one hm).mono (Fr.sub_add_right hd)) (underI_lt (range_lt L)) zC hau)) ?_;rintro _ _ ⟨a24,c24,rfl,rfl⟩
  try simp only [zx1,zx2,zx3]
  refine OD.callB (.p rfl) zD rfl zD rfl rfl (bs:=[TreeV tt d b s L (.slice a24 64 c24) (treeSum L p)]) zJ (fun m hm hd=>cloneB_c (TreeV.lent hT.hd hd hm) zC) ?_;rintro _ _ ⟨a25,c25,rfl,rfl⟩
  try simp only [zx1,zx2,zx3]
  refine OD.q 1 rfl<|ODx.nil<|S.foldS (A:=TreeX tt d b s L) (bs:=[TreeV tt d b s L (.slice a24 64 c24) (treeSum L p)]) zJ (fun m h=>TreeV.toX h) ?_;exact S.rt results33 rfl hR ⟨a25,c25,rfl,rfl⟩
 ·have e:sumT_q L p=[]:=by unfold sumT_q;rw [if_neg hp]
  rw [e] at hR;refine S.seq<|S.region rfl<|O.q 1 rfl<|O.nil<|S.seq<|S.seq<|S.region rfl<|O.q 1 rfl<|O.callB (.p rfl) rfl zD rfl rfl (bs:=[TreeX tt d b s L]) zJ (fun m hm hd=>there_yes (TreeX.lent hT.hd hd hm)) ?_;rintro _ _ ⟨rfl,rfl⟩
  try simp only [zx1,zx2,zx3]
  refine O.sT 6 rfl zG ?_;refine O.op (.p rfl) (.not rfl)<|O.q 2 rfl<|O.call0 (.g rfl rfl) rfl zD rfl rfl ((mpath_c hl)) ?_;rintro _ _ ⟨rfl,rfl⟩
  try simp only [zx1,zx2,zx3]
  refine O.sF 10 rfl (by exact decide_eq_false hp) ?_;refine O.op (.g rfl rfl) (.not rfl)<|O.q 1 rfl<|O.nil<|S.condT rfl<|S.seq<|S.region rfl<|O.q 1 rfl<|O.nil<|S.addNil (T:=Rp.u8) (e:=5) ?_;exact S.rt results33 rfl hR ⟨none,0,rfl,rfl⟩
abbrev noNode:NodeT:=(0,[],[],[],())
noncomputable def nodeT (L:List LeafT) (p:List UInt8):NodeT:=if pathOk p then treeNode L p else noNode
noncomputable def nodeE (p:List UInt8):Int:=if pathOk p then 0 else 2
theorem tNode_c {r d:Fr} {b s:Nat} {L:List LeafT} {p:List UInt8} (hT:TreeH r d s L) (hl:p.length≤9223372036854775807) :
  Con prog 34 #[.pointer (some ⟨b,0,none⟩),.string (str p)] r [TreeX tt d b s L] (Ret fun v η=>∃ a1 k1 a2 k2 a3 k3,v=.tuple #[.agg #[byteV (nodeT L p).1,.slice a1 (nodeT L p).2.1.length k1,.slice a2 (nodeT L p).2.2.1.length k2,.slice a3 (nodeT L p).2.2.2.1.length k3],.int .i64 (nodeE p)] ∧
   η=[TreeX tt d b s L,OwnP Rp.u8 5 (.slice a1 (nodeT L p).2.1.length k1) (nodeT L p).2.1,OwnP Rp.u8 5 (.slice a2 (nodeT L p).2.2.1.length k2) (nodeT L p).2.2.1,ListP (LeafG tys) 31 (.slice a3 (nodeT L p).2.2.2.1.length k3) (nodeT L p).2.2.2.1]):=by
 refine Con.of (n:=28) _ rfl func34 rfl rfl rfl fun g hg R hR=>?_;have hT:=hT.mono hg;have hbL:L.length≤10000000:=hT.small.1
 by_cases hp:pathOk p
 ·have e:nodeT L p=treeNode L p:=by unfold nodeT;rw [if_pos hp]
  have e2:nodeE p=0:=by unfold nodeE;rw [if_pos hp]
  have hpl:=hp.1;have hul:=underI_len L p (List.range L.length);rw [List.length_range] at hul;have hau:atL L (underI L p (List.range L.length))=underL p L:=by rw [atL_under L p _ (range_lt L),range_atL]
  rw [e,e2] at hR;refine S.seq<|S.region rfl<|O.opE (.p rfl) (.alloc (cs:=[.int .u8 0,.slice none 0 0,.slice none 0 0,.slice none 0 0]) zeroValue27 rfl) ?_;rintro _ _ ⟨b4,rfl,rfl⟩;refine O.q 1 rfl<|O.nil<|S.seq<|S.block<|S.seq<|S.region rfl<|O.q 1 rfl<|O.callB (.p rfl) rfl zD rfl rfl (bs:=[TreeX tt d b s L]) zJ (fun m hm hd=>there_yes (TreeX.lent hT.hd hd hm)) ?_;rintro _ _ ⟨rfl,rfl⟩
  try simp only [zx1,zx2,zx3]
  refine O.sT 8 rfl zG ?_;refine O.op (.p rfl) (.not rfl)<|O.q 1 rfl<|O.nil<|S.condF rfl<|S.seq<|S.region rfl<|O.q 1 rfl<|O.call0 (.p rfl) rfl zD rfl rfl ((mpath_c hl)) ?_;rintro _ _ ⟨rfl,rfl⟩
  try simp only [zx1,zx2,zx3]
  refine O.sT 13 rfl (by exact decide_eq_true hp) ?_;refine O.op (.p rfl) (.not rfl)<|O.q 1 rfl<|O.nil<|S.condF rfl<|S.skip<|S.inBlock<|S.seq<|S.regionD (L:=[0,1,2,3,4,5,6,7,8,9,10,11,12,13]) mixedF zD<|OD.q 3 rfl<|.quiet (.p rfl) rfl (fun _=>.nilCheck rfl)<|.quiet (.p rfl) rfl (fun _=>.fieldAddr fld77x0 rfl)<|OD.q 2 rfl<|.quiet (.p rfl) rfl (fun _=>.nilCheck rfl)<|.quiet (.p rfl) rfl (fun _=>.fieldAddr fld77x0 rfl)<|OD.callB (.p rfl) zD rfl zD rfl rfl (bs:=[TreeX tt d b s L]) zJ (fun m hm hd=>all_c (TreeX.lent hT.hd hd hm) hbL) ?_;rintro _ _ ⟨a25,c25,rfl,rfl⟩
  try simp only [zx1,zx2,zx3]
  refine OD.callB (.p rfl) zD rfl zD rfl rfl (bs:=[TreeX tt d b s L,OwnP Rp.nat 3 (.slice a25 L.length c25) (List.range L.length)]) zJ (fun m hm hd=>under_c (TreeX.lent hT.hd hd hm) ((owned_snd hm).mono (Fr.sub_add_right hd)) (range_lt L) hl zK) ?_;rintro _ _ ⟨a26,c26,rfl,rfl⟩
  try simp only [zx1,zx2,zx3]
  refine OD.callSs (.p rfl) zD rfl zD rfl rfl (bs:=[TreeX tt d b s L,OwnP Rp.nat 3 (.slice a26 (underI L p (List.range L.length)).length c26) (underI L p (List.range L.length))]) zJ (Con.lentD (η:=[TreeX tt d b s L]) (bs:=[OwnP Rp.nat 3 (.slice a26 (underI L p (List.range L.length)).length c26) (underI L p (List.range L.length))]) (fun m hm hd=>node_all (510 - p.length) (hT.mono (Fr.sub_add_left _ _)) zC hp ((owned_one hm).mono (Fr.sub_add_right hd)) (underI_lt (range_lt L)) zC hau)) ?_;rintro _ _ ⟨q1,d1,q2,d2,q3,d3,rfl,rfl⟩
  try simp only [zx1,zx2,zx3]
  refine OD.storeObj rfl zD zD rfl rfl rfl rfl zB zH ?_;refine OD.q 1 rfl<|ODx.nil<|S.retCellT results34 rfl rfl zB (LoadsAs.agg isAgg27 zD) fun w hw=>Holds.end_ hR hw ?_;exact pk ⟨q1,d1,q2,d2,q3,d3,rfl,rfl⟩
 ·have e:nodeT L p=noNode:=by unfold nodeT;rw [if_neg hp]
  have e2:nodeE p=2:=by unfold nodeE;rw [if_neg hp]
  rw [e,e2] at hR;refine S.seq<|S.region rfl<|O.opE (.p rfl) (.alloc (cs:=[.int .u8 0,.slice none 0 0,.slice none 0 0,.slice none 0 0]) zeroValue27 rfl) ?_;rintro _ _ ⟨b4,rfl,rfl⟩;refine O.q 1 rfl<|O.nil<|S.seq<|S.block<|S.seq<|S.region rfl<|O.q 1 rfl<|O.callB (.p rfl) rfl zD rfl rfl (bs:=[TreeX tt d b s L]) zJ (fun m hm hd=>there_yes (TreeX.lent hT.hd hd hm)) ?_;rintro _ _ ⟨rfl,rfl⟩
  try simp only [zx1,zx2,zx3]
  refine O.sT 8 rfl zG ?_;refine O.op (.p rfl) (.not rfl)<|O.q 1 rfl<|O.nil<|S.condF rfl<|S.seq<|S.region rfl<|O.q 1 rfl<|O.call0 (.p rfl) rfl zD rfl rfl ((mpath_c hl)) ?_;rintro _ _ ⟨rfl,rfl⟩
  try simp only [zx1,zx2,zx3]
  refine O.sF 13 rfl (by exact decide_eq_false hp) ?_;refine O.op (.p rfl) (.not rfl)<|O.q 1 rfl<|O.nil<|S.condT rfl<|S.seq<|S.region rfl<|O.op (.p rfl) (.build (cs:=[_,_,_,_]) underlying27 rfl rfl rfl rfl rfl)<|O.opU rfl (.storeObj zD rfl rfl rfl rfl zB zH) ?_;refine O.q 1 rfl<|O.nil<|S.listNil (LeafG tys) 31 ?_;refine S.addNil (T:=Rp.u8) (e:=5) ?_;refine S.addNil (T:=Rp.u8) (e:=5) ?_;refine S.retCellT results34 rfl rfl zB (LoadsAs.agg isAgg27 zD) fun w hw=>Holds.end_ hR hw ?_;exact pk ⟨none,0,none,0,none,0,rfl,rfl⟩
theorem tTop_c {r d:Fr} {b s:Nat} {L:List LeafT} (hT:TreeH r d s L) (hs4:s<4) :
  Con prog 32 #[.pointer (some ⟨b,0,none⟩)] r [TreeX tt d b s L] (Ret fun v η=>∃ a c,v=.slice a 64 c∧η=[TreeX tt d b s L,OwnP Rp.u8 5 (.slice a 64 c) (topP (s:Int) (treeSum L []))]):=by
 have e:sumT_q L []=treeSum L []:=by unfold sumT_q;rw [if_pos ⟨by simp,fun c hc=>by cases hc⟩]
 have h64:=treeSum_len hT.ok [];have ht:(topP (s:Int) (treeSum L [])).length=64:=by unfold topP;rw [if_pos ⟨by omega,by omega,h64⟩,shaSum_len]
 refine Con.of (n:=13) _ rfl func32 rfl rfl rfl fun g hg R hR=>?_;have hT:=hT.mono hg;refine S.seq<|S.region rfl<|O.q 1 rfl<|O.nil<|S.seq<|S.seq<|S.region rfl<|O.q 1 rfl<|O.callB (.p rfl) rfl zD rfl rfl (bs:=[TreeX tt d b s L]) zJ (fun m hm hd=>there_yes (TreeX.lent hT.hd hd hm)) ?_;rintro _ _ ⟨rfl,rfl⟩
 try simp only [zx1,zx2,zx3]
 refine O.sT 4 rfl zG ?_;refine O.op (.p rfl) (.not rfl)<|O.nil<|S.condF rfl<|S.skip<|S.seq<|S.regionD (L:=[0,1,2,4,3,5,6,7]) mixedF zD ?_;refine OD.q 1 rfl<|.quiet (.p rfl) rfl (fun _=>.nilCheck rfl)<|.quiet (.p rfl) rfl (fun _=>.fieldAddr fld77x1 rfl)<|OD.q 1 rfl<|OD.alt2 3 5 [5,6,7] [3,6,7] zD rfl rfl ?_ ?_
 ·refine ODt.loadL (.p rfl) zD (fun _=>.treeShard flat3 rfl zB) ?_
  refine OD.callS (.p rfl) zD rfl zD rfl rfl zB (tSum_c (p:=[]) hT zL) ?_;rintro _ _ ⟨a11,c11,rfl,rfl⟩
  try simp only [zx1,zx2,zx3]
  rw [e,h64];refine OD.callB (.p rfl) zD rfl zD rfl rfl (bs:=[OwnP Rp.u8 5 (.slice a11 64 c11) (treeSum L [])]) zJ (fun m hm hd=>topSum_c ((owned_one hm).mono (Fr.sub_add_right hd)) (⟨by omega,by omega⟩:InI64 (s:Int)) (hT.hH.mono (Fr.sub_add_left _ _)) (hT.hK.mono (Fr.sub_add_left _ _)) zC) ?_;rintro _ _ ⟨a12,c12,rfl,rfl⟩
  try simp only [zx1,zx2,zx3]
  rw [ht];refine OD.q 1 rfl<|ODx.nil ?_;exact S.rt results32 rfl hR ⟨a12,c12,rfl,rfl⟩
 ·refine ODt.callS (.p rfl) zD rfl zD rfl rfl zB (tSum_c (p:=[]) hT zL) ?_
  rintro _ _ ⟨a11,c11,rfl,rfl⟩
  try simp only [zx1,zx2,zx3]
  rw [e,h64];refine OD.loadL (.p rfl) zD (fun _=>.treeShard flat3 rfl zB) ?_;refine OD.callB (.p rfl) zD rfl zD rfl rfl (bs:=[OwnP Rp.u8 5 (.slice a11 64 c11) (treeSum L [])]) zJ (fun m hm hd=>topSum_c ((owned_one hm).mono (Fr.sub_add_right hd)) (⟨by omega,by omega⟩:InI64 (s:Int)) (hT.hH.mono (Fr.sub_add_left _ _)) (hT.hK.mono (Fr.sub_add_left _ _)) zC) ?_;rintro _ _ ⟨a12,c12,rfl,rfl⟩
  try simp only [zx1,zx2,zx3]
  rw [ht];refine OD.q 1 rfl<|ODx.nil ?_;exact S.rt results32 rfl hR ⟨a12,c12,rfl,rfl⟩
def kAt:Nat→List UInt8
 |0=>[97]
 |i+1=>[Go.Sp.byteOf ((97+i % 26:Nat):Int),Go.Sp.byteOf ((97+i / 26:Nat):Int)]
theorem kAt_len (i:Nat):1≤(kAt i).length∧(kAt i).length≤2:=by cases i<;>simp [kAt]
theorem kAt_16:shardOf (kAt 16)=0:=by decide +kernel
theorem key0_c {r:Fr} (hH:At r ⟨0,0,none⟩ (w64s shaH)) (hK:At r ⟨1,0,none⟩ (w64s shaK)) :
  Con prog 129 #[] r [] (Ret fun v η=>∃ k:List UInt8,(1≤k.length∧k.length≤2)∧shardOf k=0∧v=.string (str k)∧η=[]):=by
 refine Con.of (n:=23) _ rfl func129 rfl rfl rfl fun g hg R hR=>?_;have hH:=hH.mono hg;have hK:=hK.mono hg;refine S.seq<|S.region rfl<|O.q 1 rfl<|O.nil<|S.seq<|S.region rfl<|O.q 1 rfl<|O.nil<|S.seq<|S.seq<|S.region rfl<|O.q 1 rfl<|O.nil<|S.block<|S.loopK (ι:=Nat) (fun i=>i≤16) (fun i=>[(1,.string (str (kAt i))),(2,.int .i64 (i:Int))]) [] (fun i=>[]) (fun i=>16 - i) (0) zL (.cons rfl (.cons rfl (.nil))) (.nil) rfl fun i hx ih=>?_;have hm1:=meltRefl (g:=g);have hkl:=kAt_len i
 by_cases hs:shardOf (kAt i)=0
 ·
  refine S.seq<|S.seq<|S.region rfl<|O.q 1 rfl<|O.op (.p rfl) (.lss rfl rfl)<|O.sT 4 rfl (by exact decide_eq_true zC) ?_;refine O.q 2 rfl<|O.call0 (.g rfl rfl) rfl zD rfl rfl ((shOf_c zE zE zI)) ?_;rintro _ _ ⟨rfl,rfl⟩
  try simp only [zx1,zx2,zx3]
  refine O.op (.g rfl rfl) (.neq rfl rfl)<|O.sF 8 rfl (by simp [hs]) ?_;refine O.q 1 rfl<|O.nil<|S.condF rfl<|S.exit rfl<|S.seq<|S.region rfl<|O.q 2 rfl<|O.nil ?_;clear ih;exact S.rt results129 rfl hR ⟨kAt i,hkl,hs,rfl,rfl⟩
 ·have hi:i<16:=by
   rcases Nat.lt_or_ge i 16 with h|h
   ·exact h
   ·have e:i=16:=by omega
    subst e;exact absurd kAt_16 hs
  refine S.seq<|S.seq<|S.region rfl<|O.q 1 rfl<|O.op (.p rfl) (.lss rfl rfl)<|O.sT 4 rfl (by exact decide_eq_true zC) ?_;refine O.q 2 rfl<|O.call0 (.g rfl rfl) rfl zD rfl rfl ((shOf_c zE zE zI)) ?_;rintro _ _ ⟨rfl,rfl⟩
  try simp only [zx1,zx2,zx3]
  refine O.op (.g rfl rfl) (.neq rfl rfl)<|O.sT 8 rfl (by simpa using hs) ?_;refine O.q 1 rfl<|O.nil<|S.condT rfl<|S.skip<|S.seq<|S.block<|S.region rfl<|O.q 1 rfl<|O.op (.p rfl) (.rem rfl rfl zC)<|O.slot 13 (v' :=.int .i64 ((i % 26:Nat):Int)) rfl (by exact congrArg (Value.int .i64) (by rw [Int.tmod_eq_emod_of_nonneg zC];omega)) ?_;refine O.op (.p rfl) (.add rfl rfl (IntWalk.i64_in _ zC))<|O.slot 14 (v' :=.int .i64 ((97+i % 26:Nat):Int)) rfl (by exact congrArg (Value.int .i64) zC) ?_;refine O.op (.p rfl) (.cvt underlying3 underlying5 rfl)<|O.slot 15 (v' :=byteV (Go.Sp.byteOf ((97+i % 26:Nat):Int))) rfl (by exact wrapB _) ?_;refine O.q 1 rfl<|O.op (.p rfl) (.quo rfl rfl zC)<|O.slot 17 (v' :=.int .i64 ((i / 26:Nat):Int)) rfl (by exact congrArg (Value.int .i64) (by rw [Int.tdiv_eq_ediv_of_nonneg zC,IntWalk.i64_in _ zC];rfl)) ?_;refine O.op (.p rfl) (.add rfl rfl (IntWalk.i64_in _ zC))<|O.slot 18 (v' :=.int .i64 ((97+i / 26:Nat):Int)) rfl (by exact congrArg (Value.int .i64) zC) ?_;refine O.op (.p rfl) (.cvt underlying3 underlying5 rfl)<|O.slot 19 (v' :=byteV (Go.Sp.byteOf ((97+i / 26:Nat):Int))) rfl (by exact wrapB _) ?_;refine O.opE (.p rfl) (.litP (T:=Rp.u8) (ys:=kAt (i+1)) underlying24 elem5 zF rfl rfl ⟨rfl,rfl,trivial⟩ zF) ?_;rintro _ _ ⟨a20,c20,rfl,rfl⟩;refine O.frz (A:=OwnP Rp.u8 5 (.slice a20 2 c20) (kAt (i+1))) zB fun g hs hm ⟨_,x',s'⟩=>?_
  have har20:=(fun s x=>x.arr.mono s) s' x';clear x' s';replace hg:=Fr.sub_trans hg hs;replace hR:=melted hR hm
  try replace hH:=hH.mono hs
  try replace hK:=hK.mono hs
  replace hm1:=meltTrans hm1 hm;clear hs hm;refine O.op (.p rfl) (.toStr underlying24 underlying5 underlying9 rfl (by first|assumption|exact Arr.mono hg zE|exact Arr.left zE|exact Arr.left (Arr.mono hg zE))) ?_;refine O.q 1 rfl<|O.nil<|S.inBlock<|S.region rfl<|O.q 1 rfl<|O.op (.p rfl) (.add rfl rfl (IntWalk.i64_in _ zC))<|O.q 1 rfl<|O.nil ?_;exact S.melt hm1 (S.pw (ih (i+1) zC zC))
theorem node_nil:nodeT ([]:List LeafT) []=(1,[],[],[],()):=by
 unfold nodeT;rw [if_pos ⟨by simp,fun c hc=>by cases hc⟩];exact treeNode_0 rfl
theorem nodeE_nil:nodeE []=0:=by unfold nodeE;exact if_pos ⟨by simp,fun c hc=>by cases hc⟩
theorem make_e {r d:Fr} {b s:Nat} {key:List UInt8} (hT:TreeH r d s []) (hkl:key.length≤1000000) :
  Con prog 64 #[.pointer (some ⟨b,0,none⟩),.string (str key)] r [TreeX tt d b s []] (Ret fun v η=>v=.tuple #[.agg #[.slice none 0 0,.slice none 0 0],.int .i64 (if keyOk key∧shardOf key=s then 0 else 22)]∧η=[TreeX tt d b s []]):=by
 have hH:=hT.hH;have hK:=hT.hK;refine Con.of (n:=88) _ rfl func64 rfl rfl rfl fun g hg R hR=>?_;have hT:=hT.mono hg;have hH:=hH.mono hg;have hK:=hK.mono hg
 by_cases h1:keyOk key
 ·by_cases h2:shardOf key=s
  ·have he:(if keyOk key∧shardOf key=s then (0:Int) else 22)=0:=if_pos ⟨h1,h2⟩
   refine S.seq<|S.region rfl<|O.opE (.p rfl) (.alloc (cs:=[.slice none 0 0,.slice none 0 0]) zeroValue112 rfl) ?_;rintro _ _ ⟨b4,rfl,rfl⟩;refine O.q 1 rfl<|O.nil<|S.seq<|S.region rfl<|O.q 1 rfl<|O.callS (.p rfl) rfl zD rfl rfl zB (tNode_c (b:=b) (p:=[]) hT zL) ?_;rintro _ _ ⟨a16,k16,e16,h16,q16,l16,rfl,rfl⟩
   try simp only [zx1,zx2,zx3]
   simp only [node_nil,nodeE_nil,List.length_nil];refine O.q 2 rfl<|O.slot 17 (v' :=.agg #[byteV 1,.slice a16 0 k16,.slice e16 0 h16,.slice q16 0 l16]) rfl zG ?_;refine O.q 1 rfl<|O.slot 18 (v' :=.int .i64 0) rfl zG ?_;refine O.opE (.p rfl) (.alloc (cs:=[.int .u8 0,.slice none 0 0,.slice none 0 0,.slice none 0 0]) zeroValue27 rfl) ?_;rintro _ _ ⟨b6,rfl,rfl⟩;refine O.opU rfl (.storeObj zD rfl rfl rfl rfl zB zH) ?_;refine O.q 1 rfl<|O.nil<|S.seq<|S.block<|S.seq<|S.region rfl<|O.q 1 rfl<|O.op (.p rfl) (.neq rfl rfl)<|O.sF 21 rfl zG ?_;refine O.q 1 rfl<|O.nil<|S.condF rfl<|S.seq<|S.seq<|S.region rfl<|O.q 1 rfl<|O.call0 (.p rfl) rfl zD rfl rfl ((plong_c zI)) ?_;rintro _ _ ⟨rfl,rfl⟩
   try simp only [zx1,zx2,zx3]
   refine O.op (.p rfl) ((by first|exact .notD rfl|exact .not rfl)) ?_;refine O.sF 27 rfl (by simpa using h1) ?_;refine O.q 1 rfl<|O.nil<|S.condF rfl<|S.region rfl<|O.q 1 rfl<|O.call0 (.p rfl) rfl zD rfl rfl ((shOf_c zE zE zI)) ?_;rintro _ _ ⟨rfl,rfl⟩
   try simp only [zx1,zx2,zx3]
   refine O.q 1 rfl<|O.callB (.p rfl) rfl zD rfl rfl (bs:=[TreeX tt d b s []]) zJ (fun m hm hd=>shard_yes (TreeX.lent hT.hd hd hm)) ?_;rintro _ _ ⟨rfl,rfl⟩
   try simp only [zx1,zx2,zx3]
   refine O.op (.p rfl) (.neq rfl rfl)<|O.sF 32 rfl zK ?_;refine O.q 1 rfl<|O.nil<|S.condF rfl<|S.skip<|S.inBlock<|S.seq<|S.region rfl<|O.opE (.p rfl) (.alloc (cs:=[.slice none 0 0,.slice none 0 0]) zeroValue112 rfl) ?_;rintro _ _ ⟨b8,rfl,rfl⟩;refine O.nil<|S.seq<|S.region rfl<|O.q 1 rfl<|O.call0 (.p rfl) rfl zD rfl rfl ((shBits_c zE zE zI)) ?_;rintro _ _ ⟨rfl,rfl⟩
   try simp only [zx1,zx2,zx3]
   refine O.q 1 rfl<|O.nil<|S.seq<|S.block<|S.unroll<|S.seq<|S.seq<|S.region rfl<|O.op (.p rfl) (.fieldObj fld27x0 rfl)<|O.op (.p rfl) (.lo flat23) ?_;refine O.op (.p rfl) (.eql rfl rfl)<|O.sF 38 rfl zG ?_;refine O.nil<|S.condF rfl<|S.exit rfl<|S.seq<|S.seq<|S.region rfl<|O.op (.p rfl) (.fieldObj fld27x3 rfl)<|O.op (.p rfl) (.lo flat25) ?_;refine O.op (.p rfl) (.len rfl underlying25 rfl)<|O.q 1 rfl<|O.nil<|S.block<|S.unroll<|S.seq<|S.region rfl<|O.op (.p rfl) (.lss rfl rfl)<|O.sF 72 rfl zG ?_;refine O.nil<|S.seq<|S.condF rfl<|S.exit rfl<|S.seq<|S.region rfl<|O.op (.p rfl) (.loA (news:=[_,_]) isAgg112) ?_;refine O.opU rfl (.storeObj zD rfl rfl rfl rfl zB zH) ?_;refine O.q 1 rfl<|O.nil<|S.retCellT results64 rfl rfl zB (LoadsAs.agg isAgg112 zD) fun w hw=>Holds.end_ hR hw ?_;exact pk ⟨by rw [he];rfl,rfl⟩
  ·have he:(if keyOk key∧shardOf key=s then (0:Int) else 22)=22:=if_neg fun w=>h2 w.2
   refine S.seq<|S.region rfl<|O.opE (.p rfl) (.alloc (cs:=[.slice none 0 0,.slice none 0 0]) zeroValue112 rfl) ?_;rintro _ _ ⟨b4,rfl,rfl⟩;refine O.q 1 rfl<|O.nil<|S.seq<|S.region rfl<|O.q 1 rfl<|O.callS (.p rfl) rfl zD rfl rfl zB (tNode_c (b:=b) (p:=[]) hT zL) ?_;rintro _ _ ⟨a16,k16,e16,h16,q16,l16,rfl,rfl⟩
   try simp only [zx1,zx2,zx3]
   simp only [node_nil,nodeE_nil,List.length_nil];refine O.q 2 rfl<|O.slot 17 (v' :=.agg #[byteV 1,.slice a16 0 k16,.slice e16 0 h16,.slice q16 0 l16]) rfl zG ?_;refine O.q 1 rfl<|O.slot 18 (v' :=.int .i64 0) rfl zG ?_;refine O.opE (.p rfl) (.alloc (cs:=[.int .u8 0,.slice none 0 0,.slice none 0 0,.slice none 0 0]) zeroValue27 rfl) ?_;rintro _ _ ⟨b6,rfl,rfl⟩;refine O.opU rfl (.storeObj zD rfl rfl rfl rfl zB zH) ?_;refine O.q 1 rfl<|O.nil<|S.seq<|S.block<|S.seq<|S.region rfl<|O.q 1 rfl<|O.op (.p rfl) (.neq rfl rfl)<|O.sF 21 rfl zG ?_;refine O.q 1 rfl<|O.nil<|S.condF rfl<|S.seq<|S.seq<|S.region rfl<|O.q 1 rfl<|O.call0 (.p rfl) rfl zD rfl rfl ((plong_c zI)) ?_;rintro _ _ ⟨rfl,rfl⟩
   try simp only [zx1,zx2,zx3]
   refine O.op (.p rfl) ((by first|exact .notD rfl|exact .not rfl)) ?_;refine O.sF 27 rfl (by simpa using h1) ?_;refine O.q 1 rfl<|O.nil<|S.condF rfl<|S.region rfl<|O.q 1 rfl<|O.call0 (.p rfl) rfl zD rfl rfl ((shOf_c zE zE zI)) ?_;rintro _ _ ⟨rfl,rfl⟩
   try simp only [zx1,zx2,zx3]
   refine O.q 1 rfl<|O.callB (.p rfl) rfl zD rfl rfl (bs:=[TreeX tt d b s []]) zJ (fun m hm hd=>shard_yes (TreeX.lent hT.hd hd hm)) ?_;rintro _ _ ⟨rfl,rfl⟩
   try simp only [zx1,zx2,zx3]
   refine O.op (.p rfl) (.neq rfl rfl)<|O.sT 32 rfl zK ?_;refine O.q 1 rfl<|O.nil<|S.condT rfl<|S.seq<|S.region rfl<|O.op (.p rfl) (.build (cs:=[_,_]) underlying112 rfl rfl rfl rfl rfl)<|O.opU rfl (.storeObj zD rfl rfl rfl rfl zB zH) ?_;refine O.q 1 rfl<|O.nil<|S.retCellT results64 rfl rfl zB (LoadsAs.agg isAgg112 zD) fun w hw=>Holds.end_ hR hw ?_;exact pk ⟨by rw [he];rfl,rfl⟩
 ·have he:(if keyOk key∧shardOf key=s then (0:Int) else 22)=22:=if_neg fun w=>h1 w.1
  refine S.seq<|S.region rfl<|O.opE (.p rfl) (.alloc (cs:=[.slice none 0 0,.slice none 0 0]) zeroValue112 rfl) ?_;rintro _ _ ⟨b4,rfl,rfl⟩;refine O.q 1 rfl<|O.nil<|S.seq<|S.region rfl<|O.q 1 rfl<|O.callS (.p rfl) rfl zD rfl rfl zB (tNode_c (b:=b) (p:=[]) hT zL) ?_;rintro _ _ ⟨a16,k16,e16,h16,q16,l16,rfl,rfl⟩
  try simp only [zx1,zx2,zx3]
  simp only [node_nil,nodeE_nil,List.length_nil];refine O.q 2 rfl<|O.slot 17 (v' :=.agg #[byteV 1,.slice a16 0 k16,.slice e16 0 h16,.slice q16 0 l16]) rfl zG ?_;refine O.q 1 rfl<|O.slot 18 (v' :=.int .i64 0) rfl zG ?_;refine O.opE (.p rfl) (.alloc (cs:=[.int .u8 0,.slice none 0 0,.slice none 0 0,.slice none 0 0]) zeroValue27 rfl) ?_;rintro _ _ ⟨b6,rfl,rfl⟩;refine O.opU rfl (.storeObj zD rfl rfl rfl rfl zB zH) ?_;refine O.q 1 rfl<|O.nil<|S.seq<|S.block<|S.seq<|S.region rfl<|O.q 1 rfl<|O.op (.p rfl) (.neq rfl rfl)<|O.sF 21 rfl zG ?_;refine O.q 1 rfl<|O.nil<|S.condF rfl<|S.seq<|S.seq<|S.region rfl<|O.q 1 rfl<|O.call0 (.p rfl) rfl zD rfl rfl ((plong_c zI)) ?_;rintro _ _ ⟨rfl,rfl⟩
  try simp only [zx1,zx2,zx3]
  refine O.op (.p rfl) ((by first|exact .notD rfl|exact .not rfl)) ?_;refine O.sT 27 rfl (by simpa using h1) ?_;refine O.q 1 rfl<|O.nil<|S.condT rfl<|S.skip<|S.condT rfl<|S.seq<|S.region rfl<|O.op (.p rfl) (.build (cs:=[_,_]) underlying112 rfl rfl rfl rfl rfl)<|O.opU rfl (.storeObj zD rfl rfl rfl rfl zB zH) ?_;refine O.q 1 rfl<|O.nil<|S.retCellT results64 rfl rfl zB (LoadsAs.agg isAgg112 zD) fun w hw=>Holds.end_ hR hw ?_;exact pk ⟨by rw [he];rfl,rfl⟩
theorem make_n {r:Fr} {v:Value} {key:List UInt8} (h:NoTree r v):Con prog 64 #[v,.string (str key)] r [] (Ret fun u η=>u=.tuple #[.agg #[.slice none 0 0,.slice none 0 0],.int .i64 1]∧η=[]):=by
 refine Con.of (n:=88) _ rfl func64 rfl rfl rfl fun g hg R hR=>?_;have h:=h.mono hg;refine S.seq<|S.region rfl<|O.opE (.p rfl) (.alloc (cs:=[.slice none 0 0,.slice none 0 0]) zeroValue112 rfl) ?_;rintro _ _ ⟨b4,rfl,rfl⟩;refine O.q 1 rfl<|O.nil<|S.seq<|S.region rfl<|O.q 1 rfl<|O.call0 (.p rfl) rfl zD rfl rfl ((nNode_c h)) ?_;rintro _ _ ⟨rfl,rfl⟩
 try simp only [zx1,zx2,zx3]
 refine O.q 2 rfl<|O.slot 17 (v' :=.agg #[.int .u8 0,.slice none 0 0,.slice none 0 0,.slice none 0 0]) rfl zG ?_;refine O.q 1 rfl<|O.slot 18 (v' :=.int .i64 1) rfl zG ?_;refine O.opE (.p rfl) (.alloc (cs:=[.int .u8 0,.slice none 0 0,.slice none 0 0,.slice none 0 0]) zeroValue27 rfl) ?_;rintro _ _ ⟨b6,rfl,rfl⟩;refine O.opU rfl (.storeObj zD rfl rfl rfl rfl zB zH) ?_;refine O.q 1 rfl<|O.nil<|S.seq<|S.block<|S.seq<|S.region rfl<|O.q 1 rfl<|O.op (.p rfl) (.neq rfl rfl)<|O.sT 21 rfl zG ?_;refine O.q 1 rfl<|O.nil<|S.condT rfl<|S.seq<|S.region rfl<|O.op (.p rfl) (.build (cs:=[_,_]) underlying112 rfl rfl rfl rfl rfl)<|O.q 1 rfl<|O.opU rfl (.storeObj zD rfl rfl rfl rfl zB zH) ?_;refine O.q 1 rfl<|O.nil<|S.retCellT results64 rfl rfl zB (LoadsAs.agg isAgg112 zD) fun w hw=>Holds.end_ hR hw ?_;exact pk ⟨rfl,rfl⟩
def prf0:PrfT:=([],[],())
theorem prf0_ok:prfOk prf0:=⟨⟨by simp [prf0],fun h=>absurd h (by simp [prf0])⟩,(fun _ h=>by cases h),(fun _ h=>by cases h),fun i h=>absurd h (Nat.not_lt_zero _)⟩
theorem tsum_nil:treeSum ([]:List LeafT) []=shaSum [0]:=by
 have h:nodeOk (treeNode ([]:List LeafT) []):=treeNode_ok (TreeOk.nil 0) [];unfold treeSum;rw [nodeSumY h,treeNode_0 rfl];rfl
theorem topX_0 {k:List UInt8} (h:shardOf k=0):topX k prf0=4::Go.Sp.byteOf 0::shaSum [0]:=by
 unfold topX topT;rw [h];rfl
theorem top_0:topP 0 (treeSum ([]:List LeafT) [])=shaSum (4::Go.Sp.byteOf 0::shaSum [0]):=by
 unfold topP;rw [tsum_nil,if_pos ⟨by decide,by decide,shaSum_len _⟩]
theorem top_0z:shaSum (4::Go.Sp.byteOf 0::shaSum [0])≠List.replicate 64 0:=by decide +kernel
theorem beg_0 {k:List UInt8} (h1:keyOk k) (h:shardOf k=0):begOk 0 k prf0:=⟨prf0_ok,h1,by rw [h];rfl,fun _ h=>by cases h⟩
theorem chk_0 {k:List UInt8} (h1:keyOk k) (h:shardOf k=0):chkOk 0 k prf0 (topP 0 (treeSum ([]:List LeafT) [])):=⟨beg_0 h1 h,by rw [topX_0 h,top_0]⟩
theorem hld_0 {k:List UInt8} (h1:keyOk k) (h:shardOf k=0):holdsE 0 k prf0 (topP 0 (treeSum ([]:List LeafT) [])) []=0:=if_pos ⟨chk_0 h1 h,by rw [if_pos (show saysP k prf0.2.1=[] from rfl)]⟩
theorem hld_z {k:List UInt8} (h:shardOf k=0):holdsE 0 k prf0 (List.replicate 64 0) []=23:=if_neg fun w=>top_0z (by rw [← topX_0 h];exact w.1.2)
theorem sErr_nil:sErr ([]:List RecT)=0:=(setDY (l:=[]) ⟨rfl,fun j h=>absurd h (Nat.not_lt_zero _)⟩).2.2
theorem sOut_nil:(sOut ([]:List RecT)).length≤100000000:=by rw [(setDY (l:=[]) ⟨rfl,fun j h=>absurd h (Nat.not_lt_zero _)⟩).2.1];decide +kernel
theorem txt_0 {k:List UInt8} (h1:keyOk k) (h:shardOf k=0):(textsL 0 k prf0 []).length=3:=by
 unfold textsL;rw [if_pos ⟨beg_0 h1 h,sErr_nil⟩]
 simp [textsU,txs,prf0]
theorem awake13_c {r:Fr} (hH:At r ⟨0,0,none⟩ (w64s shaH)) (hK:At r ⟨1,0,none⟩ (w64s shaK)) :
  Con prog 63 #[] r [] (Ret fun v η=>v=.bool true∧η=[]):=by
 refine Con.of (n:=62) _ rfl func63 rfl rfl rfl fun g hg R hR=>?_;have hH:=hH.mono hg;have hK:=hK.mono hg;have hT:TreeH g.h Fr.emp 0 []:=⟨Fr.emp_sub _,TreeOk.nil 0,⟨by simp,fun _ h=>by cases h⟩,hH,hK⟩;have k0:Arr (Rp.slice Rp.u8) g.h (.slice none prf0.1.length 0) prf0.1:=Arr.nil;have k1:Arr StubRp g.h (.slice none prf0.2.1.length 0) prf0.2.1:=Arr.nil;have ks:Arr RecRp g.h (.slice none 0 0) ([]:List RecT):=Arr.nil;refine S.seq<|S.region rfl<|O.q 1 rfl<|O.nil<|S.seq<|S.region rfl<|O.call0 (.p rfl) rfl zD rfl rfl ((new_yes (s:=0) zF)) ?_;rintro _ _ ⟨b8,rfl,rfl⟩
 try simp only [zx1,zx2,zx3]
 refine O.q 1 rfl<|O.nil<|S.seq<|S.region rfl<|O.call0 (.p rfl) rfl zD rfl rfl ((key0_c hH hK)) ?_;rintro _ _ ⟨k,hkl,hks,rfl,rfl⟩
 try simp only [zx1,zx2,zx3]
 have hko:keyOk k:=⟨by omega,by omega⟩;have hme:(if keyOk k∧shardOf k=0 then (0:Int) else 22)=0:=if_pos ⟨hko,hks⟩;refine O.q 1 rfl<|O.nil<|S.seq<|S.region rfl<|O.q 2 rfl<|O.callS (.p rfl) rfl zD rfl rfl zB (make_e (b:=b8) hT zC) ?_;rintro _ _ ⟨rfl,rfl⟩
 try simp only [zx1,zx2,zx3]
 rw [hme];refine O.q 2 rfl<|O.slot 14 (v' :=.agg #[.slice none 0 0,.slice none 0 0]) rfl zG ?_;refine O.q 1 rfl<|O.slot 15 (v' :=.int .i64 0) rfl zG ?_;refine O.opE (.p rfl) (.alloc (cs:=[.slice none 0 0,.slice none 0 0]) zeroValue112 rfl) ?_;rintro _ _ ⟨b3,rfl,rfl⟩;refine O.opU rfl (.storeObj zD rfl rfl rfl rfl zB zH) ?_;refine O.q 1 rfl<|O.nil (S.seq ?_);have h1:=chk_0 hko hks;have h2:=hld_0 hko hks;have h3:=hld_z hks;have h4:=txt_0 hko hks;have h5:decide (prfOk prf0)=true:=decide_eq_true prf0_ok;refine S.frz (A:=obj b3 112 [.slice none 0 0,.slice none 0 0]) zB fun g hs hm ⟨_,x',s'⟩=>?_;have hp3:=(fun s x=>(obj_at x).mono s) s' x';clear x' s';replace hg:=Fr.sub_trans hg hs;replace hR:=melted hR hm
 try replace hH:=hH.mono hs
 try replace hK:=hK.mono hs
 try replace hT:=hT.mono hs
 try replace k0:=k0.mono hs
 try replace k1:=k1.mono hs
 try replace ks:=ks.mono hs
 clear hs hm;refine S.regionD (L:=[0,2,3,1,4,5,6,7,8,9]) mixedF zD ?_;refine OD.q 2 rfl<|.quiet (.p rfl) rfl (fun _=>.loadAgg isAgg112 zD rfl hp3) ?_;refine OD.callS (.p rfl) zD rfl zD rfl rfl zB (tTop_c (b:=b8) hT zF) ?_;rintro _ _ ⟨a18,c18,rfl,rfl⟩
 try simp only [zx1,zx2,zx3]
 refine OD.callB (.p rfl) zD rfl zD rfl rfl (bs:=[OwnP Rp.u8 5 (.slice a18 64 c18) (topP 0 (treeSum ([]:List LeafT) []))]) zJ (fun m hm hd=>pCheck_y (x:=prf0) (key:=k) (top:=topP 0 (treeSum ([]:List LeafT) [])) (k0.mono (Fr.sub_add_left _ _)) (k1.mono (Fr.sub_add_left _ _)) (by constructor<;>decide) (hm.arr.right hd) (by simp [prf0]) zC (hH.mono (Fr.sub_add_left _ _)) (hK.mono (Fr.sub_add_left _ _)) h1) ?_;rintro v21 _ ⟨a21,c21,rfl,hn21,rfl⟩
 try simp only [zx1,zx2,zx3]
 refine OD.q 2 rfl<|OD.slot 22 (v' :=.slice a21 0 c21) rfl zG ?_;refine OD.q 1 rfl<|OD.slot 23 (v' :=.int .i64 0) rfl zG ?_;refine OD.q 2 rfl<|ODx.nil<|S.seq<|S.region rfl<|O.opE (.p rfl) (.makeP (T:=Rp.u8) (m:=64) 0 underlying24 elem5 zF rfl rfl rfl rfl rfl zF zF) ?_;rintro _ _ ⟨a24,c24,rfl,rfl⟩;refine O.q 1 rfl<|O.nil<|S.seq<|S.frz (A:=OwnP Rp.u8 5 (.slice a24 64 c24) (List.replicate 64 0)) zB fun g hs hm ⟨_,x',s'⟩=>?_;have ha24:=(fun s x=>x.arr.mono s) s' x';clear x' s';replace hg:=Fr.sub_trans hg hs;replace hR:=melted hR hm
 try replace hH:=hH.mono hs
 try replace hK:=hK.mono hs
 try replace hT:=hT.mono hs
 try replace k0:=k0.mono hs
 try replace k1:=k1.mono hs
 try replace ks:=ks.mono hs
 try replace hp3:=hp3.mono hs
 try replace hp3:=hp3.mono hs
 clear hs hm;refine S.regionD (L:=[0,1,2,3,4,5,6,7,8,9,10,11,12,13,14,15,16,18,19,17,20,21,22,23,24,25,26,27,28,29,30,31,32,33,34,35,36,37]) mixedF zD ?_;refine OD.q 1 rfl<|.quiet (.p rfl) rfl (fun _=>.eql rfl rfl)<|OD.sT 26 rfl zG ?_;refine OD.q 2 rfl<|.quiet (.g rfl rfl) rfl (fun _=>.eql rfl rfl)<|OD.sT 29 rfl zG ?_;refine OD.q 3 rfl<|.quiet (.g rfl rfl) rfl (fun _=>.len rfl underlying24 rfl)<|.quiet (.g rfl rfl) rfl (fun _=>.eql rfl rfl)<|OD.sT 34 rfl zG ?_;refine OD.q 2 rfl<|.quiet (.g rfl rfl) rfl (fun _=>.loadAgg isAgg112 zD rfl hp3) ?_;refine OD.call0 (.g rfl rfl) zD rfl zD rfl rfl ((pRight_c (x:=prf0) (PrfRp.mk k0 k1))) ?_;rintro _ _ ⟨rfl,rfl⟩
 try simp only [zx1,zx2,zx3]
 refine OD.sT 38 rfl (by exact h5) ?_;refine OD.q 4 rfl<|.quiet (.g rfl rfl) rfl (fun _=>.loadAgg isAgg112 zD rfl hp3) ?_;refine OD.callS (.g rfl rfl) zD rfl zD rfl rfl zB (tTop_c (b:=b8) hT zF) ?_;rintro _ _ ⟨a42,c42,rfl,rfl⟩
 try simp only [zx1,zx2,zx3]
 refine OD.callB (.g rfl rfl) zD rfl zD rfl rfl (bs:=[OwnP Rp.u8 5 (.slice a42 64 c42) (topP 0 (treeSum ([]:List LeafT) []))]) zJ (fun m hm hd=>pHolds_c (x:=prf0) (key:=k) (xs:=[]) (top:=topP 0 (treeSum ([]:List LeafT) [])) (k0.mono (Fr.sub_add_left _ _)) (k1.mono (Fr.sub_add_left _ _)) (by constructor<;>decide) (hm.arr.right hd) (ks.mono (Fr.sub_add_left _ _)) (by simp [prf0]) zC zL (hH.mono (Fr.sub_add_left _ _)) (hK.mono (Fr.sub_add_left _ _))) ?_;rintro _ _ ⟨rfl,rfl⟩
 try simp only [zx1,zx2,zx3]
 rw [h2];refine .quiet (.g rfl rfl) rfl (fun _=>.eql rfl rfl)<|OD.sT 46 rfl zG ?_;refine OD.q 4 rfl<|.quiet (.g rfl rfl) rfl (fun _=>.loadAgg isAgg112 zD rfl hp3) ?_;refine OD.call0 (.g rfl rfl) zD rfl zD rfl rfl ((pHolds_c (x:=prf0) (key:=k) (xs:=[]) (top:=List.replicate 64 0) k0 k1 (by constructor<;>decide) ha24 ks (by simp [prf0]) zC zL hH hK)) ?_;rintro _ _ ⟨rfl,rfl⟩
 try simp only [zx1,zx2,zx3]
 rw [h3];refine .quiet (.g rfl rfl) rfl (fun _=>.eql rfl rfl)<|OD.sT 53 rfl zG ?_;refine OD.q 3 rfl<|.quiet (.g rfl rfl) rfl (fun _=>.loadAgg isAgg112 zD rfl hp3) ?_;refine OD.call0 (.g rfl rfl) zD rfl zD rfl rfl ((pTexts_c (x:=prf0) (key:=k) (xs:=[]) k0 k1 (by constructor<;>decide) ks zL sOut_nil (by simp [prf0]) zC hH hK)) ?_;rintro _ _ ⟨ws,a58,c58,hl58,rfl,rfl⟩
 try simp only [zx1,zx2,zx3]
 rw [h4];refine .quiet (.g rfl rfl) rfl (fun _=>.len rfl underlying109 rfl)<|.quiet (.g rfl rfl) rfl (fun _=>.eql rfl rfl)<|OD.sT 60 rfl zG ?_;refine OD.q 2 rfl<|ODx.nil ?_;exact S.rt results63 rfl hR ⟨rfl,rfl⟩
theorem proofNone_c {r:Fr} {key:List UInt8} (hl0:key.length≤9223372036854775807) (hH:At r ⟨0,0,none⟩ (w64s shaH)) (hK:At r ⟨1,0,none⟩ (w64s shaK)) :
  Con prog 12 #[.string (str key)] r [] (Ret fun v η=>v=.bool true∧η=[]):=by
 refine Con.of (n:=71) _ rfl func12 rfl rfl rfl fun g hg R hR=>?_;have hH:=hH.mono hg;have hK:=hK.mono hg;refine S.seq<|S.region rfl<|O.q 1 rfl<|O.nil<|S.seq<|S.seq<|S.region rfl<|O.call0 (.p rfl) rfl zD rfl rfl ((awake13_c hH hK)) ?_;rintro _ _ ⟨rfl,rfl⟩
 try simp only [zx1,zx2,zx3]
 refine O.sT 11 rfl zG ?_;refine O.op (.p rfl) (.not rfl)<|O.nil<|S.condF rfl<|S.skip (S.seq (S.seq ?_))
 by_cases hl:key.length≤200
 ·
  refine S.region rfl<|O.q 1 rfl<|O.op (.p rfl) (.lenS rfl underlying9 rfl)<|O.op (.p rfl) (.gtr rfl rfl)<|O.sF 15 rfl zK ?_;refine O.nil<|S.condF rfl<|S.skip<|S.seq<|S.region rfl<|O.q 1 rfl<|O.call0 (.p rfl) rfl zD rfl rfl ((make_n noTree_nil)) ?_;rintro _ _ ⟨rfl,rfl⟩
  try simp only [zx1,zx2,zx3]
  refine O.q 2 rfl<|O.slot 19 (v' :=.agg #[.slice none 0 0,.slice none 0 0]) rfl zG ?_;refine O.q 1 rfl<|O.slot 20 (v' :=.int .i64 1) rfl zG ?_;refine O.opE (.p rfl) (.alloc (cs:=[.slice none 0 0,.slice none 0 0]) zeroValue112 rfl) ?_;rintro _ _ ⟨b3,rfl,rfl⟩;refine O.opU rfl (.storeObj zD rfl rfl rfl rfl zB zH) ?_;refine O.q 1 rfl<|O.nil<|S.seq<|S.region rfl<|O.op (.p rfl) (.build (cs:=[_,_,_,_]) underlying77 rfl rfl rfl rfl rfl)<|O.opE (.p rfl) (.box (cs:=[_,_,_,_]) rfl rfl) ?_;rintro _ _ ⟨b23,rfl,rfl⟩;refine O.frz (A:=obj b23 77 zeroT) zB fun g hs hm ⟨_,x',s'⟩=>?_;have hb23:=(fun s x=>(obj_at x).mono s) s' x';clear x' s';replace hg:=Fr.sub_trans hg hs;replace hR:=melted hR hm
  try replace hH:=hH.mono hs
  try replace hK:=hK.mono hs
  clear hs hm;refine O.q 1 rfl<|O.call0 (.p rfl) rfl zD rfl rfl ((make_n (noTree_zero hb23))) ?_;rintro _ _ ⟨rfl,rfl⟩
  try simp only [zx1,zx2,zx3]
  refine O.q 2 rfl<|O.slot 26 (v' :=.agg #[.slice none 0 0,.slice none 0 0]) rfl zG ?_;refine O.q 1 rfl<|O.slot 27 (v' :=.int .i64 1) rfl zG ?_;refine O.opE (.p rfl) (.alloc (cs:=[.slice none 0 0,.slice none 0 0]) zeroValue112 rfl) ?_;rintro _ _ ⟨b5,rfl,rfl⟩;refine O.opU rfl (.storeObj zD rfl rfl rfl rfl zB zH) ?_;refine O.q 1 rfl<|O.nil<|S.seq<|S.seq<|S.region rfl<|O.q 1 rfl<|O.op (.p rfl) (.neq rfl rfl)<|O.sF 29 rfl zG ?_;refine O.q 2 rfl<|O.op (.g rfl rfl) (.neq rfl rfl)<|O.sF 32 rfl zG ?_;refine O.q 1 rfl<|O.nil<|S.condF rfl<|S.skip<|S.seq<|S.seq<|S.region rfl<|O.q 1 rfl<|O.nil (S.block ?_);have hTs:∀ s,TreeH g.h Fr.emp s []:=fun s=>⟨Fr.emp_sub _,TreeOk.nil s,⟨by simp,fun _ h=>by cases h⟩,hH,hK⟩;refine S.pk (ζ:=[]) zQ ?_;refine S.loopK (ι:=Nat) (fun i=>i≤4) (fun i=>[(7,.int .i64 (i:Int))]) [(0,_)] (fun i=>[]) (fun i=>4 - i) (0) zL (.cons rfl (.nil)) (.cons rfl (.nil)) rfl fun i hx ih=>?_;have hm1:=meltRefl (g:=g)
  by_cases hi:i<4
  ·by_cases hk:keyOk key
   ·have hk1:=hk.1
    have hk2:=hk.2
    by_cases hs:shardOf key=i
    ·have hme:(if keyOk key∧shardOf key=i then (0:Int) else 22)=0:=if_pos ⟨hk,hs⟩
     refine S.seq<|S.seq<|S.region rfl<|O.q 1 rfl<|O.op (.p rfl) (.lss rfl rfl)<|O.sT 35 rfl (by exact decide_eq_true zC) ?_;refine O.nil<|S.condT rfl<|S.skip<|S.seq<|S.block<|S.seq<|S.region rfl<|O.q 1 rfl<|O.call0 (.p rfl) rfl zD rfl rfl ((new_yes (s:=i) hi)) ?_;rintro _ _ ⟨b40,rfl,rfl⟩
     try simp only [zx1,zx2,zx3]
     refine O.q 1 rfl<|O.callS (.p rfl) rfl zD rfl rfl zB (make_e (b:=b40) (hTs i) zC) ?_;rintro _ _ ⟨rfl,rfl⟩
     try simp only [zx1,zx2,zx3]
     rw [hme];refine O.q 2 rfl<|O.slot 43 (v' :=.agg #[.slice none 0 0,.slice none 0 0]) rfl zG ?_;refine O.q 1 rfl<|O.slot 44 (v' :=.int .i64 0) rfl zG ?_;refine O.opE (.p rfl) (.alloc (cs:=[.slice none 0 0,.slice none 0 0]) zeroValue112 rfl) ?_;rintro _ _ ⟨b8,rfl,rfl⟩;refine O.opU rfl (.storeObj zD rfl rfl rfl rfl zB zH) ?_;refine O.q 1 rfl<|O.nil<|S.seq<|S.region rfl<|O.q 1 rfl<|O.op (.p rfl) (.lenS rfl underlying9 rfl)<|O.op (.p rfl) (.geq rfl rfl)<|O.sT 47 rfl zK ?_;refine O.q 2 rfl<|O.op (.g rfl rfl) (.lenS rfl underlying9 rfl)<|O.op (.g rfl rfl) (.leq rfl rfl)<|O.sT 51 rfl zK ?_;refine O.q 3 rfl<|O.call0 (.g rfl rfl) rfl zD rfl rfl ((shOf_c zE zE zI)) ?_;rintro _ _ ⟨rfl,rfl⟩
     try simp only [zx1,zx2,zx3]
     refine O.q 1 rfl<|O.op (.g rfl rfl) (.eql rfl rfl)<|O.sT 57 rfl zK ?_;refine O.q 2 rfl<|O.nil<|S.seq<|S.region rfl<|O.q 2 rfl<|O.op (.p rfl) (.eql rfl rfl)<|O.sT 61 rfl zG ?_;refine O.op (.p rfl) (.neqB underlying4 rfl rfl)<|O.sF 62 rfl zG ?_;refine O.q 2 rfl<|O.op (.g rfl rfl) (.not rfl)<|O.sF 65 rfl zG ?_;refine O.q 5 rfl<|O.nil<|S.condF rfl<|S.skip<|S.inBlock<|S.region rfl<|O.q 1 rfl<|O.op (.p rfl) (.add rfl rfl (IntWalk.i64_in _ zC))<|O.q 1 rfl<|O.nil ?_;exact S.pw (ih (i+1) zC zC)
    ·have hme:(if keyOk key∧shardOf key=i then (0:Int) else 22)=22:=if_neg fun w=>hs w.2
     refine S.seq<|S.seq<|S.region rfl<|O.q 1 rfl<|O.op (.p rfl) (.lss rfl rfl)<|O.sT 35 rfl (by exact decide_eq_true zC) ?_;refine O.nil<|S.condT rfl<|S.skip<|S.seq<|S.block<|S.seq<|S.region rfl<|O.q 1 rfl<|O.call0 (.p rfl) rfl zD rfl rfl ((new_yes (s:=i) hi)) ?_;rintro _ _ ⟨b40,rfl,rfl⟩
     try simp only [zx1,zx2,zx3]
     refine O.q 1 rfl<|O.callS (.p rfl) rfl zD rfl rfl zB (make_e (b:=b40) (hTs i) zC) ?_;rintro _ _ ⟨rfl,rfl⟩
     try simp only [zx1,zx2,zx3]
     rw [hme];refine O.q 2 rfl<|O.slot 43 (v' :=.agg #[.slice none 0 0,.slice none 0 0]) rfl zG ?_;refine O.q 1 rfl<|O.slot 44 (v' :=.int .i64 22) rfl zG ?_;refine O.opE (.p rfl) (.alloc (cs:=[.slice none 0 0,.slice none 0 0]) zeroValue112 rfl) ?_;rintro _ _ ⟨b8,rfl,rfl⟩;refine O.opU rfl (.storeObj zD rfl rfl rfl rfl zB zH) ?_;refine O.q 1 rfl<|O.nil<|S.seq<|S.region rfl<|O.q 1 rfl<|O.op (.p rfl) (.lenS rfl underlying9 rfl)<|O.op (.p rfl) (.geq rfl rfl)<|O.sT 47 rfl zK ?_;refine O.q 2 rfl<|O.op (.g rfl rfl) (.lenS rfl underlying9 rfl)<|O.op (.g rfl rfl) (.leq rfl rfl)<|O.sT 51 rfl zK ?_;refine O.q 3 rfl<|O.call0 (.g rfl rfl) rfl zD rfl rfl ((shOf_c zE zE zI)) ?_;rintro _ _ ⟨rfl,rfl⟩
     try simp only [zx1,zx2,zx3]
     refine O.q 1 rfl<|O.op (.g rfl rfl) (.eql rfl rfl)<|O.sF 57 rfl zK ?_;refine O.q 2 rfl<|O.nil<|S.seq<|S.region rfl<|O.q 2 rfl<|O.op (.p rfl) (.eql rfl rfl)<|O.sF 61 rfl zG ?_;refine O.op (.p rfl) (.neqB underlying4 rfl rfl)<|O.sF 62 rfl zG ?_;refine O.q 2 rfl<|O.op (.g rfl rfl) (.not rfl)<|O.sT 65 rfl zG ?_;refine O.q 2 rfl<|O.op (.g rfl rfl) (.neq rfl rfl)<|O.sF 68 rfl zG ?_;refine O.q 2 rfl<|O.nil<|S.condF rfl<|S.skip<|S.inBlock<|S.region rfl<|O.q 1 rfl<|O.op (.p rfl) (.add rfl rfl (IntWalk.i64_in _ zC))<|O.q 1 rfl<|O.nil ?_;exact S.pw (ih (i+1) zC zC)
   ·by_cases hk1:1≤key.length
    ·have hk2:¬ key.length≤64:=fun w=>hk ⟨hk1,w⟩
     have hme:(if keyOk key∧shardOf key=i then (0:Int) else 22)=22:=if_neg fun w=>hk w.1;refine S.seq<|S.seq<|S.region rfl<|O.q 1 rfl<|O.op (.p rfl) (.lss rfl rfl)<|O.sT 35 rfl (by exact decide_eq_true zC) ?_;refine O.nil<|S.condT rfl<|S.skip<|S.seq<|S.block<|S.seq<|S.region rfl<|O.q 1 rfl<|O.call0 (.p rfl) rfl zD rfl rfl ((new_yes (s:=i) hi)) ?_;rintro _ _ ⟨b40,rfl,rfl⟩
     try simp only [zx1,zx2,zx3]
     refine O.q 1 rfl<|O.callS (.p rfl) rfl zD rfl rfl zB (make_e (b:=b40) (hTs i) zC) ?_;rintro _ _ ⟨rfl,rfl⟩
     try simp only [zx1,zx2,zx3]
     rw [hme];refine O.q 2 rfl<|O.slot 43 (v' :=.agg #[.slice none 0 0,.slice none 0 0]) rfl zG ?_;refine O.q 1 rfl<|O.slot 44 (v' :=.int .i64 22) rfl zG ?_;refine O.opE (.p rfl) (.alloc (cs:=[.slice none 0 0,.slice none 0 0]) zeroValue112 rfl) ?_;rintro _ _ ⟨b8,rfl,rfl⟩;refine O.opU rfl (.storeObj zD rfl rfl rfl rfl zB zH) ?_;refine O.q 1 rfl<|O.nil<|S.seq<|S.region rfl<|O.q 1 rfl<|O.op (.p rfl) (.lenS rfl underlying9 rfl)<|O.op (.p rfl) (.geq rfl rfl)<|O.sT 47 rfl zK ?_;refine O.q 2 rfl<|O.op (.g rfl rfl) (.lenS rfl underlying9 rfl)<|O.op (.g rfl rfl) (.leq rfl rfl)<|O.sF 51 rfl zK ?_;refine O.q 8 rfl<|O.nil<|S.seq<|S.region rfl<|O.q 2 rfl<|O.op (.p rfl) (.eql rfl rfl)<|O.sF 61 rfl zG ?_;refine O.op (.p rfl) (.neqB underlying4 rfl rfl)<|O.sF 62 rfl zG ?_;refine O.q 2 rfl<|O.op (.g rfl rfl) (.not rfl)<|O.sT 65 rfl zG ?_;refine O.q 2 rfl<|O.op (.g rfl rfl) (.neq rfl rfl)<|O.sF 68 rfl zG ?_;refine O.q 2 rfl<|O.nil<|S.condF rfl<|S.skip<|S.inBlock<|S.region rfl<|O.q 1 rfl<|O.op (.p rfl) (.add rfl rfl (IntWalk.i64_in _ zC))<|O.q 1 rfl<|O.nil ?_;exact S.pw (ih (i+1) zC zC)
    ·have hme:(if keyOk key∧shardOf key=i then (0:Int) else 22)=22:=if_neg fun w=>hk w.1
     refine S.seq<|S.seq<|S.region rfl<|O.q 1 rfl<|O.op (.p rfl) (.lss rfl rfl)<|O.sT 35 rfl (by exact decide_eq_true zC) ?_;refine O.nil<|S.condT rfl<|S.skip<|S.seq<|S.block<|S.seq<|S.region rfl<|O.q 1 rfl<|O.call0 (.p rfl) rfl zD rfl rfl ((new_yes (s:=i) hi)) ?_;rintro _ _ ⟨b40,rfl,rfl⟩
     try simp only [zx1,zx2,zx3]
     refine O.q 1 rfl<|O.callS (.p rfl) rfl zD rfl rfl zB (make_e (b:=b40) (hTs i) zC) ?_;rintro _ _ ⟨rfl,rfl⟩
     try simp only [zx1,zx2,zx3]
     rw [hme];refine O.q 2 rfl<|O.slot 43 (v' :=.agg #[.slice none 0 0,.slice none 0 0]) rfl zG ?_;refine O.q 1 rfl<|O.slot 44 (v' :=.int .i64 22) rfl zG ?_;refine O.opE (.p rfl) (.alloc (cs:=[.slice none 0 0,.slice none 0 0]) zeroValue112 rfl) ?_;rintro _ _ ⟨b8,rfl,rfl⟩;refine O.opU rfl (.storeObj zD rfl rfl rfl rfl zB zH) ?_;refine O.q 1 rfl<|O.nil<|S.seq<|S.region rfl<|O.q 1 rfl<|O.op (.p rfl) (.lenS rfl underlying9 rfl)<|O.op (.p rfl) (.geq rfl rfl)<|O.sF 47 rfl zK ?_;refine O.q 12 rfl<|O.nil<|S.seq<|S.region rfl<|O.q 2 rfl<|O.op (.p rfl) (.eql rfl rfl)<|O.sF 61 rfl zG ?_;refine O.op (.p rfl) (.neqB underlying4 rfl rfl)<|O.sF 62 rfl zG ?_;refine O.q 2 rfl<|O.op (.g rfl rfl) (.not rfl)<|O.sT 65 rfl zG ?_;refine O.q 2 rfl<|O.op (.g rfl rfl) (.neq rfl rfl)<|O.sF 68 rfl zG ?_;refine O.q 2 rfl<|O.nil<|S.condF rfl<|S.skip<|S.inBlock<|S.region rfl<|O.q 1 rfl<|O.op (.p rfl) (.add rfl rfl (IntWalk.i64_in _ zC))<|O.q 1 rfl<|O.nil ?_;exact S.pw (ih (i+1) zC zC)
  ·
   refine S.seq<|S.seq<|S.region rfl<|O.q 1 rfl<|O.op (.p rfl) (.lss rfl rfl)<|O.sF 35 rfl (by exact decide_eq_false zC) ?_;refine O.nil<|S.condF rfl<|S.exit rfl<|S.seq<|S.region rfl<|O.q 1 rfl<|O.nil ?_;clear ih;exact S.rt results12 rfl hR ⟨rfl,rfl⟩
 ·
  refine S.region rfl<|O.q 1 rfl<|O.op (.p rfl) (.lenS rfl underlying9 rfl)<|O.op (.p rfl) (.gtr rfl rfl)<|O.sT 15 rfl zK ?_;refine O.nil<|S.condT rfl<|S.seq<|S.region rfl<|O.q 1 rfl<|O.nil ?_;exact S.rt results12 rfl hR ⟨rfl,rfl⟩
theorem proofNone_e {r:Fr} {s:ByteArray} (hs:s.size≤maxLen) (hH:At r ⟨0,0,none⟩ (w64s shaH)) (hK:At r ⟨1,0,none⟩ (w64s shaK)) :
  Con prog 12 #[.string s] r [] (Ret fun v η=>v=.bool true∧η=[]):=by
 have e:s=str s.data.toList:=rfl;rw [e];refine proofNone_c ?_ hH hK;rw [Array.length_toList];exact Nat.le_trans hs zF
end Go.Proofs.YtojafegjlahajaaGreatDoor
