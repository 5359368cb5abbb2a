/- Texts of this proof. -/
import Derived.Test.YtojafegjlahajaaGreatDoorQTree9
open Go Go.Sp Go.Proofs.Tryz
set_option maxRecDepth 100000
set_option maxHeartbeats 1000000
attribute [local irreducible] obj Own OwnP
namespace Go.Proofs.YtojafegjlahajaaGreatDoor
attribute [local irreducible] treeNode treeSum
theorem node_of {d:Fr} {s:Nat} {L:List LeafT} {n:Nat} (hs:∀ k,n=k+1→SumC d s L k):NodeC d s L n:=by
 intro r b p va a hT hpn hp ha hat hal hau
 obtain ⟨a1,c1,rfl⟩:=ha.shape;have hlen:(underL p L).length=a.length:=by rw [← hau];exact atL_len hat
 refine Con.o func99 fun g hg R hR=>?_;have hT:=hT.mono hg;have ha:=ha.mono hg;have hps:(str p).size=p.length:=str_size_q p;refine S.seq<|S.region rfl<|O.opE (.p rfl) (.box (cs:=[_]) rfl rfl) ?_;rintro _ _ ⟨b3,rfl,rfl⟩;refine O.opE (.p rfl) (.box (cs:=[_]) rfl rfl) ?_;rintro _ _ ⟨b4,rfl,rfl⟩;refine O.opE (.p rfl) (.box (cs:=[_]) rfl rfl) ?_;rintro _ _ ⟨b5,rfl,rfl⟩;refine O.opE (.p rfl) (.alloc (cs:=[.int .u8 0,.slice none 0 0,.slice none 0 0,.slice none 0 0]) zeroValue27 rfl) ?_;rintro _ _ ⟨b6,rfl,rfl⟩;refine O.nil<|S.seq<|S.frz (A:=obj b3 42 [.pointer (some ⟨b,0,none⟩)]) zC fun g hs hm ⟨_,x',s'⟩=>?_;have h3:=(fun s x=>(obj_at x).mono s) s' x';clear x' s';replace hg:=zfs hg hs;replace hR:=melted hR hm
 try replace hT:=hT.mono hs
 try replace ha:=ha.mono hs
 clear hs hm;refine S.frz (A:=obj b4 9 [.string (str p)]) zC fun g hs hm ⟨_,x',s'⟩=>?_;have h4:=(fun s x=>(obj_at x).mono s) s' x';clear x' s';replace hg:=zfs hg hs;replace hR:=melted hR hm
 try replace hT:=hT.mono hs
 try replace ha:=ha.mono hs
 try replace h3:=h3.mono hs
 clear hs hm;refine S.frz (A:=obj b5 104 [.slice a1 a.length c1]) zC fun g hs hm ⟨_,x',s'⟩=>?_;have h5:=(fun s x=>(obj_at x).mono s) s' x';clear x' s';replace hg:=zfs hg hs;replace hR:=melted hR hm
 try replace hT:=hT.mono hs
 try replace ha:=ha.mono hs
 try replace h3:=h3.mono hs
 try replace h4:=h4.mono hs
 clear hs hm;refine S.region rfl<|O.opE (.p rfl) (.makeP0 (T:=Rp.cells 2) (c:=2) underlying25 elem31 rfl rfl rfl rfl zE zE) ?_;rintro _ _ ⟨a11,c11,rfl,rfl⟩;refine zz 4 ?_;refine S.foldS (A:=ListP (LeafG tys) 31 (.slice a11 0 c11) []) (bs:=[OwnP (Rp.cells 2) 31 (.slice a11 0 c11) []]) zI (fun m h=>list_none rfl h) ?_
 by_cases h2:2≤a.length∧p.length<510
 ·obtain ⟨k,hk⟩:∃ k,n=k+1:=⟨n - 1,by omega⟩
  have hsk:SumC d s L k:=hs k hk;have hx:=treeNode_split (L:=L) (p:=p) zB h2.2;have h480:=treeSum_len hT.ok (p++[48]);have h490:=treeSum_len hT.ok (p++[49]);rw [hx] at hR;refine zz 4 ?_;refine O.sF 14 rfl (by exact zdf zB) ?_;refine zz 4 ?_;refine O.sF 18 rfl (by exact zdf zB) ?_;refine zz 11 ?_;refine O.sF 53 rfl (by exact zdf zB) ?_;refine zz 8 ?_;refine O.sF 58 rfl (by exact zdf zB) ?_;refine zz 8 ?_;refine O.sF 64 rfl (by exact zdf zB) ?_;refine zz 13 ?_;refine O.callS (.p rfl) rfl zD rfl rfl zC (half_of hsk (.inl rfl) hT zB hp ha hat hal hau h3 h4 h5) ?_;rintro _ _ ⟨a69,c69,rfl,rfl⟩;refine O.q 1 rfl<|O.callS (.p rfl) rfl zD rfl rfl zC (half_of hsk (.inr rfl) hT zB hp ha hat hal hau h3 h4 h5) ?_;rintro _ _ ⟨a71,c71,rfl,rfl⟩;refine O.op (.p rfl) (.build (cs:=[_,_,_,_]) underlying27 rfl rfl rfl rfl rfl) ?_;refine zz 1 ?_;refine O.nil<|S.listNil (LeafG tys) 31 ?_;refine S.retCellAgg results99 isAgg27 zD rfl zC fun w hw=>Holds.end_ hR hw ?_;exact pk ⟨a69,c69,a71,c71,none,0,by rw [h480,h490];rfl,by rw [h480,h490]⟩
 ·have hall:a.length<2∨p.length=510:=by omega
  obtain ⟨lv,hlv⟩:∃ lv,lv=atL L a:=⟨_,rfl⟩;have hal2:lv.length=a.length:=by rw [hlv];exact atL_len hat
  have hget:∀ i (h:i<a.length) (h' :i<lv.length),lv[i]=L[a[i]]'(hat _ (List.getElem_mem h)):=by subst hlv;exact fun i h h' =>atL_get hat i h
  have hul:underL p L=lv:=by rw [hlv,hau]
  refine S.cut2 (fun (v:Option Addr × Nat)=>True) (fun (v:Option Addr × Nat)=>[(7,.slice v.1 lv.length v.2)]) [(3,_),(4,_),(5,_),(6,_)] (fun (v:Option Addr × Nat)=>[ListP (LeafG tys) 31 (.slice v.1 lv.length v.2) lv,obj b6 27 [.int .u8 0,.slice none 0 0,.slice none 0 0,.slice none 0 0],TreeX tt d b s L]) zq (fun key=>?_) (fun v hx=>?_)
  ·have hm1:=meltRefl (g:=g)
   by_cases q2:a.length<2
   ·
    refine zz 4 ?_;refine O.sT 14 rfl (by exact zdt zB)<|zz 14 ?_;refine S.loopK2 (ι:=Nat) (κ:=Option Addr × Nat) (fun i u=>i≤a.length) (fun i u=>[(22,.int .i64 (i:Int)),(7,.slice u.1 (lv.take i).length u.2)]) [(3,_),(4,_),(5,_),(6,_),(20,_),(21,_)] (fun i u=>[ListP (LeafG tys) 31 (.slice u.1 (lv.take i).length u.2) (lv.take i),obj b6 27 [.int .u8 0,.slice none 0 0,.slice none 0 0,.slice none 0 0],TreeX tt d b s L]) (fun i u=>a.length - i) (0) ((a11,c11)) zH zq zq rfl fun i u hx ih=>?_;have hm2:=meltRefl (g:=g);refine zz 5 ?_;refine S.cd rfl (fun h23=>?_) fun h23=>?_
    ·have hi:i<a.length:=by omega
     have hil:i<lv.length:=by omega
     have haL:=hat _ (List.getElem_mem hi);have hbL:L.length≤10000000:=hT.small.1;have hset:=hT.small.2 _ (List.getElem_mem haL);have hleaf:=(hT.ok.1 _ (List.getElem_mem haL)).1;have hi64:InI64 ((a[i]:Nat):Int):=⟨by omega,by omega⟩;have hgi:=hget i hi hil;have hsn:lv.take i++[lv[i]]=lv.take (i+1):=(ztg hil).symm;have htl:(lv.take i).length=i:=by simp;omega
     have htl2:(lv.take (i+1)).length=i+1:=by simp;omega
     have hg_o:=hg;have hR_o:=hR
     try have hT_o:=hT
     try have ha_o:=ha
     try have h3_o:=h3
     try have h4_o:=h4
     try have h5_o:=h5
     refine S.frzH (B:=TreeX tt d b s L) zC fun go hso ⟨mo,hmo,hsmo⟩ hbo=>?_;replace hg:=zfs hg hso;replace hR:=backR hR hbo
     try replace hT:=hT.mono hso
     try replace ha:=ha.mono hso
     try replace h3:=h3.mono hso
     try replace h4:=h4.mono hso
     try replace h5:=h5.mono hso
     have hA:=TreeX.a hT.hd hsmo hmo;obtain ⟨aL,cL,aW,cW,mid,hat0,hL0,hW0⟩:=hA;refine S.listOpen (G:=LeafG tys) (k' :=2) rfl zC fun css hcl=>?_;refine zz 5 ?_;refine O.ia (.p rfl) underlying104 size3 rfl rfl rfl zA (h:=fun p24 cs24 hp24 hr24=>?_);obtain ⟨rfl,hz24⟩:=hr24;refine zz 1 ?_;refine O.slot 25 (v' :=.int .i64 ((a[i]:Nat):Int)) rfl zF ?_;refine zz 2 ?_;rw [← hcl];refine S.regionD (L:=.range 24) F.mixed zD ?_;refine zz 6 ?_;refine OD.q 1 rfl<|OD.ia (.p rfl) underlying25 size31 rfl rfl (show _=(((a[i]):Nat):Int) by omega) (hL0) (h:=fun p33 cs33 hp33 hr33=>?_);obtain ⟨l1,m1,rfl,l2,l3⟩:=LeafRp.sh hr33;refine zz 7 ?_;refine OD.q 1 rfl<|OD.ia (.p rfl) underlying25 size31 rfl rfl (show _=(((a[i]):Nat):Int) by omega) (hL0) (h:=fun p42 cs42 hp42 hr42=>?_);obtain ⟨l4,m4,rfl,l5,l6⟩:=LeafRp.sh hr42;refine zz 2 ?_;refine OD.call0 (.p rfl) zD rfl zD rfl rfl ((own_c l6 hleaf.2.1 zB)) ?_;rintro _ _ ⟨a45,c45,rfl,rfl⟩
     refine .quiet (.p rfl) rfl (fun _=>.build (cs:=[_,_]) underlying31 rfl rfl rfl rfl rfl)<|OD.litP (T:=(Rp.cells 2)) (ys:=[_]) (.p rfl) zD underlying25 elem31 zE rfl rfl ⟨⟨rfl,rfl,by first|(simp;done)|(intro v hv;simp [Value.cells] at hv;rcases hv with rfl|rfl<;>rfl)|(refine List.forall_mem_cons.2 ⟨rfl,?_⟩;repeat (first|exact (fun _ h=>absurd h List.not_mem_nil)|refine List.forall_mem_cons.2 ⟨rfl,?_⟩))⟩,trivial⟩ zE (fun a47 c47=>?_);refine OD.appendO (.p rfl) zD (T:=(Rp.cells 2)) underlying25 elem31 zE rfl rfl zC zC zG zG (fun a48 c48=>?_);refine zz 3 ?_;refine S.back hbo ?_;replace hg:=hg_o;replace hR:=hR_o
     try replace hT:=hT_o
     try replace ha:=ha_o
     try replace h3:=h3_o
     try replace h4:=h4_o
     try replace h5:=h5_o
     clear hg_o hR_o;rw [hgi] at hsn;refine S.foldS (A:=(LeafG tys).own [.string (str (L[a[i]]'haL).1),.slice a45 (L[a[i]]'haL).2.1.length c45] ((L[a[i]]'haL).1,(L[a[i]]'haL).2.1,())) (bs:=[ListP (RecG tys) 102 (.slice a45 (L[a[i]]'haL).2.1.length c45) (L[a[i]]'haL).2.1]) zI (fun m h=>LeafG.mk (by have:=hleaf.1.2;omega) h) ?_;refine S.listPut (G:=LeafG tys) (k' :=2) rfl zC zC zC ?_;rw [show ((L[a[i]]'haL).1,(L[a[i]]'haL).2.1,())=L[a[i]]'haL from rfl,hsn];refine S.slot 7 (v' :=.slice a48 (lv.take (i+1)).length c48) rfl (by rw [hcl,htl,htl2];rfl) ?_;simp only [List.length_singleton];rw [show css.length+1=(lv.take (i+1)).length by omega];refine zz 4 ?_;exact S.pw (ih (i+1) ((a48,c48)) zB zB)
    ·clear ih
     have hi:i=a.length:=by omega
     subst hi;rw [List.take_of_length_le zB];refine S.exit rfl<|S.pk ?_ (S.weaken ?_ (key (u) (by trivial)))
     ·exact zN
     repeat (first|exact Sub.nil|refine Sub.cons rfl ?_)
   ·
    refine zz 4 ?_;refine O.sF 14 rfl (by exact zdf zB)<|zz 4 ?_;refine O.sT 18 rfl (by exact zdt zB)<|zz 10 ?_;refine S.loopK2 (ι:=Nat) (κ:=Option Addr × Nat) (fun i u=>i≤a.length) (fun i u=>[(22,.int .i64 (i:Int)),(7,.slice u.1 (lv.take i).length u.2)]) [(3,_),(4,_),(5,_),(6,_),(20,_),(21,_)] (fun i u=>[ListP (LeafG tys) 31 (.slice u.1 (lv.take i).length u.2) (lv.take i),obj b6 27 [.int .u8 0,.slice none 0 0,.slice none 0 0,.slice none 0 0],TreeX tt d b s L]) (fun i u=>a.length - i) (0) ((a11,c11)) zH zq zq rfl fun i u hx ih=>?_;have hm2:=meltRefl (g:=g);refine zz 5 ?_;refine S.cd rfl (fun h23=>?_) fun h23=>?_
    ·have hi:i<a.length:=by omega
     have hil:i<lv.length:=by omega
     have haL:=hat _ (List.getElem_mem hi);have hbL:L.length≤10000000:=hT.small.1;have hset:=hT.small.2 _ (List.getElem_mem haL);have hleaf:=(hT.ok.1 _ (List.getElem_mem haL)).1;have hi64:InI64 ((a[i]:Nat):Int):=⟨by omega,by omega⟩;have hgi:=hget i hi hil;have hsn:lv.take i++[lv[i]]=lv.take (i+1):=(ztg hil).symm;have htl:(lv.take i).length=i:=by simp;omega
     have htl2:(lv.take (i+1)).length=i+1:=by simp;omega
     have hg_o:=hg;have hR_o:=hR
     try have hT_o:=hT
     try have ha_o:=ha
     try have h3_o:=h3
     try have h4_o:=h4
     try have h5_o:=h5
     refine S.frzH (B:=TreeX tt d b s L) zC fun go hso ⟨mo,hmo,hsmo⟩ hbo=>?_;replace hg:=zfs hg hso;replace hR:=backR hR hbo
     try replace hT:=hT.mono hso
     try replace ha:=ha.mono hso
     try replace h3:=h3.mono hso
     try replace h4:=h4.mono hso
     try replace h5:=h5.mono hso
     have hA:=TreeX.a hT.hd hsmo hmo;obtain ⟨aL,cL,aW,cW,mid,hat0,hL0,hW0⟩:=hA;refine S.listOpen (G:=LeafG tys) (k' :=2) rfl zC fun css hcl=>?_;refine zz 5 ?_;refine O.ia (.p rfl) underlying104 size3 rfl rfl rfl zA (h:=fun p24 cs24 hp24 hr24=>?_);obtain ⟨rfl,hz24⟩:=hr24;refine zz 1 ?_;refine O.slot 25 (v' :=.int .i64 ((a[i]:Nat):Int)) rfl zF ?_;refine zz 2 ?_;rw [← hcl];refine S.regionD (L:=.range 24) F.mixed zD ?_;refine zz 6 ?_;refine OD.q 1 rfl<|OD.ia (.p rfl) underlying25 size31 rfl rfl (show _=(((a[i]):Nat):Int) by omega) (hL0) (h:=fun p33 cs33 hp33 hr33=>?_);obtain ⟨l1,m1,rfl,l2,l3⟩:=LeafRp.sh hr33;refine zz 7 ?_;refine OD.q 1 rfl<|OD.ia (.p rfl) underlying25 size31 rfl rfl (show _=(((a[i]):Nat):Int) by omega) (hL0) (h:=fun p42 cs42 hp42 hr42=>?_);obtain ⟨l4,m4,rfl,l5,l6⟩:=LeafRp.sh hr42;refine zz 2 ?_;refine OD.call0 (.p rfl) zD rfl zD rfl rfl ((own_c l6 hleaf.2.1 zB)) ?_;rintro _ _ ⟨a45,c45,rfl,rfl⟩
     refine .quiet (.p rfl) rfl (fun _=>.build (cs:=[_,_]) underlying31 rfl rfl rfl rfl rfl)<|OD.litP (T:=(Rp.cells 2)) (ys:=[_]) (.p rfl) zD underlying25 elem31 zE rfl rfl ⟨⟨rfl,rfl,by first|(simp;done)|(intro v hv;simp [Value.cells] at hv;rcases hv with rfl|rfl<;>rfl)|(refine List.forall_mem_cons.2 ⟨rfl,?_⟩;repeat (first|exact (fun _ h=>absurd h List.not_mem_nil)|refine List.forall_mem_cons.2 ⟨rfl,?_⟩))⟩,trivial⟩ zE (fun a47 c47=>?_);refine OD.appendO (.p rfl) zD (T:=(Rp.cells 2)) underlying25 elem31 zE rfl rfl zC zC zG zG (fun a48 c48=>?_);refine zz 3 ?_;refine S.back hbo ?_;replace hg:=hg_o;replace hR:=hR_o
     try replace hT:=hT_o
     try replace ha:=ha_o
     try replace h3:=h3_o
     try replace h4:=h4_o
     try replace h5:=h5_o
     clear hg_o hR_o;rw [hgi] at hsn;refine S.foldS (A:=(LeafG tys).own [.string (str (L[a[i]]'haL).1),.slice a45 (L[a[i]]'haL).2.1.length c45] ((L[a[i]]'haL).1,(L[a[i]]'haL).2.1,())) (bs:=[ListP (RecG tys) 102 (.slice a45 (L[a[i]]'haL).2.1.length c45) (L[a[i]]'haL).2.1]) zI (fun m h=>LeafG.mk (by have:=hleaf.1.2;omega) h) ?_;refine S.listPut (G:=LeafG tys) (k' :=2) rfl zC zC zC ?_;rw [show ((L[a[i]]'haL).1,(L[a[i]]'haL).2.1,())=L[a[i]]'haL from rfl,hsn];refine S.slot 7 (v' :=.slice a48 (lv.take (i+1)).length c48) rfl (by rw [hcl,htl,htl2];rfl) ?_;simp only [List.length_singleton];rw [show css.length+1=(lv.take (i+1)).length by omega];refine zz 4 ?_;exact S.pw (ih (i+1) ((a48,c48)) zB zB)
    ·clear ih
     have hi:i=a.length:=by omega
     subst hi;rw [List.take_of_length_le zB];refine S.exit rfl<|S.pk ?_ (S.weaken ?_ (key (u) (by trivial)))
     ·exact zN
     repeat (first|exact Sub.nil|refine Sub.cons rfl ?_)
  ·
   by_cases q0:a.length=0
   ·have hx:=treeNode_0 (L:=L) (p:=p) (List.eq_nil_of_length_eq_zero zB)
    have hl0:lv=[]:=List.eq_nil_of_length_eq_zero zB;rw [hx] at hR;refine zz 7 ?_;refine O.sT 53 rfl (by exact zdt zB) ?_;refine zz 5 ?_;refine O.op (.p rfl) (.build (cs:=[_,_,_,_]) underlying27 rfl rfl rfl rfl rfl) ?_;refine zz 1 ?_;refine O.nil<|S.listNil (LeafG tys) 31 ?_;refine S.addNil (T:=Rp.u8) (e:=5) ?_;refine S.addNil (T:=Rp.u8) (e:=5) ?_;refine S.retCellAgg results99 isAgg27 zD rfl zC fun w hw=>Holds.end_ hR hw ?_;exact pk ⟨none,0,none,0,none,0,rfl,rfl⟩
   ·by_cases q1:a.length=1
    ·obtain ⟨x,hx1⟩:=List.length_eq_one_iff.1 (show lv.length=1 by omega)
     have hx:=treeNode_1 (L:=L) (p:=p) (x:=x) (by rw [hul,hx1]);subst hx1;rw [hx] at hR;refine zz 7 ?_;refine O.sF 53 rfl (by exact zdf zB) ?_;refine zz 8 ?_;refine O.sT 58 rfl (by exact zdt zB) ?_;refine zz 6 ?_;refine O.op (.p rfl) (.build (cs:=[_,_,_,_]) underlying27 rfl rfl rfl rfl rfl) ?_;refine zz 1 ?_;refine O.nil<|S.addNil (T:=Rp.u8) (e:=5) ?_;refine S.addNil (T:=Rp.u8) (e:=5) ?_;refine S.retCellAgg results99 isAgg27 zD rfl zC fun w hw=>Holds.end_ hR hw ?_;exact pk ⟨none,0,none,0,v.1,v.2,rfl,rfl⟩
    ·have hx:=treeNode_many (L:=L) (p:=p) zB zB
     rw [hul] at hx;rw [hx] at hR;refine zz 7 ?_;refine O.sF 53 rfl (by exact zdf zB) ?_;refine zz 8 ?_;refine O.sF 58 rfl (by exact zdf zB) ?_;refine zz 8 ?_;refine O.sT 64 rfl (by exact zdt zB) ?_;refine zz 6 ?_;refine O.op (.p rfl) (.build (cs:=[_,_,_,_]) underlying27 rfl rfl rfl rfl rfl) ?_;refine zz 1 ?_;refine O.nil<|S.addNil (T:=Rp.u8) (e:=5) ?_;refine S.addNil (T:=Rp.u8) (e:=5) ?_;refine S.retCellAgg results99 isAgg27 zD rfl zC fun w hw=>Holds.end_ hR hw ?_;exact pk ⟨none,0,none,0,v.1,v.2,rfl,rfl⟩
theorem node_all {d:Fr} {s:Nat} {L:List LeafT}:∀ n,NodeC d s L n
 |0=>node_of fun k hk=>by omega
 |n+1=>node_of fun k hk=>by
  have e:k=n:=by omega
  subst e;exact sum_of (node_all k)
theorem sum_all {d:Fr} {s:Nat} {L:List LeafT} (n:Nat):SumC d s L n:=sum_of (node_all n)
noncomputable def sumT_q (L:List LeafT) (p:List UInt8):List UInt8:=if pathOk p then treeSum L p else []
theorem tSum_c {r d:Fr} {b s:Nat} {L:List LeafT} {p:List UInt8} (hT:TreeH r d s L) (hl:p.length≤9223372036854775807) :
  Con prog 33 #[.pointer (some ⟨b,0,none⟩),.string (str p)] r [TreeX tt d b s L] (Ret fun v η=>∃ a c,v=.slice a (sumT_q L p).length c∧η=[TreeX tt d b s L,OwnP Rp.u8 5 (.slice a (sumT_q L p).length c) (sumT_q L p)]):=by
 refine Con.o func33 fun g hg R hR=>?_;have hT:=hT.mono hg;have hbL:L.length≤10000000:=hT.small.1
 by_cases hp:pathOk p
 ·have e:sumT_q L p=treeSum L p:=by unfold sumT_q;rw [if_pos hp]
  have h64:=treeSum_len hT.ok p;have hpl:=hp.1;have hul:=underI_len L p (List.range L.length);rw [List.length_range] at hul;have hau:atL L (underI L p (List.range L.length))=underL p L:=by rw [atL_under L p _ (range_lt L),range_atL]
  rw [e] at hR;refine zz 8 ?_;refine O.callB (.p rfl) rfl zD rfl rfl (bs:=[TreeX tt d b s L]) zI (fun m hm hd=>there_yes (TreeX.lent hT.hd hd hm)) ?_;rintro _ _ ⟨rfl,rfl⟩;refine O.sT 6 rfl zF ?_;refine zz 3 ?_;refine O.v0 (.g rfl rfl) rfl zD rfl rfl ((mpath_c hl)) ?_;refine O.sT 10 rfl (by exact zdt hp) ?_;refine zz 6 ?_;refine S.regionD (L:=.range 14) F.mixed zD ?_;refine zz 9 ?_;refine OD.callB (.p rfl) zD rfl zD rfl rfl (bs:=[TreeX tt d b s L]) zI (fun m hm hd=>all_c (TreeX.lent hT.hd hd hm) hbL) ?_;rintro _ _ ⟨a22,c22,rfl,rfl⟩;refine OD.callB (.p rfl) zD rfl zD rfl rfl (bs:=[TreeX tt d b s L,OwnP Rp.nat 3 (.slice a22 L.length c22) (List.range L.length)]) zI (fun m hm hd=>under_c (TreeX.lent hT.hd hd hm) ((owned_snd hm).mono (Fr.sub_add_right hd)) (range_lt L) hl zK) ?_;rintro _ _ ⟨a23,c23,rfl,rfl⟩;refine OD.callSs (.p rfl) zD rfl zD rfl rfl (bs:=[TreeX tt d b s L,OwnP Rp.nat 3 (.slice a23 (underI L p (List.range L.length)).length c23) (underI L p (List.range L.length))]) zI (Con.lentD (η:=[TreeX tt d b s L]) (bs:=[OwnP Rp.nat 3 (.slice a23 (underI L p (List.range L.length)).length c23) (underI L p (List.range L.length))]) (fun m hm hd=>sum_all (510 - p.length) (hT.mono (Fr.sub_add_left _ _)) zB hp ((owned_one hm).mono (Fr.sub_add_right hd)) (underI_lt (range_lt L)) zB hau)) ?_;rintro _ _ ⟨a24,c24,rfl,rfl⟩
  refine OD.callB (.p rfl) zD rfl zD rfl rfl (bs:=[TreeV tt d b s L (.slice a24 64 c24) (treeSum L p)]) zI (fun m hm hd=>cloneB_c (TreeV.lent hT.hd hd hm) zB) ?_;rintro _ _ ⟨a25,c25,rfl,rfl⟩;refine OD.q 1 rfl<|ODx.nil<|S.foldS (A:=TreeX tt d b s L) (bs:=[TreeV tt d b s L (.slice a24 64 c24) (treeSum L p)]) zI (fun m h=>TreeV.toX h) ?_;exact S.rt results33 rfl hR ⟨a25,c25,rfl,rfl⟩
 ·have e:sumT_q L p=[]:=by unfold sumT_q;rw [if_neg hp]
  rw [e] at hR;refine zz 8 ?_;refine O.callB (.p rfl) rfl zD rfl rfl (bs:=[TreeX tt d b s L]) zI (fun m hm hd=>there_yes (TreeX.lent hT.hd hd hm)) ?_;rintro _ _ ⟨rfl,rfl⟩;refine O.sT 6 rfl zF ?_;refine zz 3 ?_;refine O.v0 (.g rfl rfl) rfl zD rfl rfl ((mpath_c hl)) ?_;refine O.sF 10 rfl (by exact zdf hp) ?_;refine zz 8 ?_;refine S.addNil (T:=Rp.u8) (e:=5) ?_;exact S.rt results33 rfl hR ⟨none,0,rfl,rfl⟩
theorem tTop_c {r d:Fr} {b s:Nat} {L:List LeafT} (hT:TreeH r d s L) (hs4:s<4) :
  Con prog 32 #[.pointer (some ⟨b,0,none⟩)] r [TreeX tt d b s L] (Ret fun v η=>∃ a c,v=.slice a 64 c∧η=[TreeX tt d b s L,OwnP Rp.u8 5 (.slice a 64 c) (topP (s:Int) (treeSum L []))]):=by
 have e:sumT_q L []=treeSum L []:=by unfold sumT_q;rw [if_pos ⟨by simp,fun c hc=>by cases hc⟩]
 have h64:=treeSum_len hT.ok [];have ht:(topP (s:Int) (treeSum L [])).length=64:=by unfold topP;rw [if_pos ⟨by omega,by omega,h64⟩,shaSum_len]
 refine Con.o func32 fun g hg R hR=>?_;have hT:=hT.mono hg;refine zz 8 ?_;refine O.callB (.p rfl) rfl zD rfl rfl (bs:=[TreeX tt d b s L]) zI (fun m hm hd=>there_yes (TreeX.lent hT.hd hd hm)) ?_;rintro _ _ ⟨rfl,rfl⟩;refine O.sT 4 rfl zF<|zz 5 ?_;refine S.regionD (L:=[0,1,2,4,3,5,6,7]) F.mixed zD ?_;refine zz 4 ?_;refine OD.alt2 3 5 [5,6,7] [3,6,7] zD rfl rfl ?_ ?_
 ·refine ODt.loadL (.p rfl) zD (fun _=>.treeShard flat3 rfl zC) ?_
  refine OD.callS (.p rfl) zD rfl zD rfl rfl zC (tSum_c (p:=[]) hT zH) ?_;rintro _ _ ⟨a11,c11,rfl,rfl⟩;rw [e,h64];refine OD.callB (.p rfl) zD rfl zD rfl rfl (bs:=[OwnP Rp.u8 5 (.slice a11 64 c11) (treeSum L [])]) zI (fun m hm hd=>topSum_c ((owned_one hm).mono (Fr.sub_add_right hd)) (⟨by omega,by omega⟩:InI64 (s:Int)) (hT.hH.mono (Fr.sub_add_left _ _)) (hT.hK.mono (Fr.sub_add_left _ _)) zB) ?_;rintro _ _ ⟨a12,c12,rfl,rfl⟩;rw [ht];refine zz 2 ?_;exact S.rt results32 rfl hR ⟨a12,c12,rfl,rfl⟩
 ·refine ODt.callS (.p rfl) zD rfl zD rfl rfl zC (tSum_c (p:=[]) hT zH) ?_
  rintro _ _ ⟨a11,c11,rfl,rfl⟩;rw [e,h64];refine OD.loadL (.p rfl) zD (fun _=>.treeShard flat3 rfl zC) ?_;refine OD.callB (.p rfl) zD rfl zD rfl rfl (bs:=[OwnP Rp.u8 5 (.slice a11 64 c11) (treeSum L [])]) zI (fun m hm hd=>topSum_c ((owned_one hm).mono (Fr.sub_add_right hd)) (⟨by omega,by omega⟩:InI64 (s:Int)) (hT.hH.mono (Fr.sub_add_left _ _)) (hT.hK.mono (Fr.sub_add_left _ _)) zB) ?_;rintro _ _ ⟨a12,c12,rfl,rfl⟩;rw [ht];refine zz 2 ?_;exact S.rt results32 rfl hR ⟨a12,c12,rfl,rfl⟩
theorem tree_newP {b mid s:Nat} {m:Fr} (h:Sat [obj b 77 [.slice none 0 0,.slice none 0 0,.int .i64 (s:Int),.map (some mid)],MapK encS mid [] 0] m):TreeP tt Fr.emp Fr.emp b s [] m:=by
 obtain ⟨m1,m2,d,s1,s2,o,m3,m4,d2,s3,s4,x,_⟩:=h;exact ⟨.slice none 0 0,.slice none 0 0,mid,[],0,⟨WfK.nil,SumsOk.nil _ _ _⟩,m1,m2,d,s1,s2,o,Fr.emp,m2,Fr.emp_disj _,Fr.emp_sub _,Fr.sub_refl _,own_none,Fr.emp,m2,Fr.emp_disj _,Fr.emp_sub _,Fr.sub_refl _,own_none,m3,m4,d2,s3,s4,x,trivial⟩
theorem newR_c {r:Fr} {s:Nat} (hs:s<4):Con prog 29 #[.int .i64 (s:Int)] r [] (Ret fun v η=>∃ b mp,v=.pointer (some ⟨b,0,none⟩)∧η=[obj b 77 [.slice none 0 0,.slice none 0 0,.int .i64 (s:Int),.map (some mp)],MapK encS mp [] 0]):=by
 refine Con.o func29 fun g hg R hR=>?_;refine zz 9 ?_;refine O.sF 4 rfl (by exact zdf zB)<|zz 3 ?_;refine O.sF 7 rfl (by exact zdf zB)<|zz 7 ?_;refine O.opE (.p rfl) (.makeMapK' (enc:=encS)) ?_;rintro _ _ ⟨b10,rfl,rfl⟩;refine O.op (.p rfl) (.build (cs:=[_,_,_,_]) underlying77 rfl rfl rfl rfl rfl)<|O.opE (.p rfl) (.box (cs:=[_,_,_,_]) rfl rfl) ?_;rintro _ _ ⟨b12,rfl,rfl⟩;refine zz 2 ?_;exact S.rt results29 rfl hR ⟨b12,b10,rfl,rfl⟩
theorem newP_c {r:Fr} {s:Nat} (hs:s<4):Con prog 29 #[.int .i64 (s:Int)] r [] (Ret fun v η=>∃ b,v=.pointer (some ⟨b,0,none⟩)∧η=[TreeP tt Fr.emp Fr.emp b s []]) :=
 Con.post (newR_c hs) fun e η' h w g hw=>by
  cases e with
  |returned v =>
   obtain ⟨b,mp,rfl,rfl⟩:=h;exact ⟨[TreeP tt Fr.emp Fr.emp b s []],⟨b,rfl,rfl⟩,hw.imp fun m h=>⟨m,Fr.emp,Fr.disj_symm (Fr.emp_disj _),Fr.sub_refl _,Fr.emp_sub _,tree_newP h,trivial⟩⟩
  |panicked _=>exact h.elim
  |outgrown=>exact h.elim
theorem wg_seen {d:Fr} {g:Fr} {b s mid c:Nat} {L:List LeafT} {vL vW:Value} {M:List (KEnt (List UInt8))} {m:Fr} (wf:WfK M c) (ok:SumsOk d Fr.emp L M) (hd:d.sub g) (hm:g.disj m)
  (h:Sat (TreeO.wg tt b s (⟨Fr.emp,vL,vW,mid,M,c,wf,ok⟩:TreeO d L)) m):TreeA (g.add m) b s L :=
 TreeP.a (k:=Fr.emp) (zfs hd (Fr.sub_add_left _ _)) (Fr.emp_sub _) (Fr.sub_add_right hm) (TreeP.fold ⟨Fr.emp,vL,vW,mid,M,c,wf,ok⟩ h)
theorem made_tt {d:Fr} {b s mid c:Nat} {L:List LeafT} {M:List (KEnt (List UInt8))} {vL vW:Value} {m:Fr} (wf:WfK M c) (ok:SumsOk d Fr.emp L M)
  (h:Sat [ListP (LeafG tys) 31 vL L,obj b 77 [vL,vW,.int .i64 (s:Int),.map (some mid)],OwnP Rp.str 9 vW (L.map fun y=>wayOf y.1),MapK encS mid M c] m):TreeX tt d b s L m:=TreeX.made (τ:=tys) (θ:=tt) wf ok h
set_option maxHeartbeats 400000 in
theorem tCopy_c {r d:Fr} {b s:Nat} {L:List LeafT} (hT:TreeH r d s L) (hs4:s<4) :
  Con prog 41 #[.pointer (some ⟨b,0,none⟩)] r [TreeP tt d Fr.emp b s L] (Ret fun v η=>∃ b',v=.pointer (some ⟨b',0,none⟩)∧η=[TreeP tt d Fr.emp b s L,TreeX tt d b' s L]):=by
 have hbL:L.length≤10000000:=hT.small.1;refine Con.o func41 fun g hg R hR=>?_;have hT:=hT.mono hg;refine S.open (bs:=fun x:{x:TreeO d L // x.k=Fr.emp}=>x.1.wg tt b s) .here (fun m h=>TreeP.opn h) fun ⟨x,hxk⟩=>?_;obtain ⟨k,vL,vW,mid,M,cM,wf,ok⟩:=x;have hk:k=Fr.emp:=hxk;subst hk;simp only [TreeO.wg,List.cons_append,List.nil_append];refine S.factS (.there .here) (fun _ y=>y.shape) fun ⟨aL,cL,hL⟩=>?_;refine S.factS (.there (.there .here)) (fun _ y=>y.shape) fun ⟨aW,cW,hW⟩=>?_;rw [List.length_map] at hW;subst hL hW;have hml:(L.map fun y=>wayOf y.1).length=L.length:=List.length_map ..;refine zz 8 ?_;refine O.callB (.p rfl) rfl zD rfl rfl (bs:=TreeO.wg tt b s (⟨Fr.emp,.slice aL L.length cL,.slice aW L.length cW,mid,M,cM,wf,ok⟩:TreeO d L)) zI (fun m hm hd=>there_yes (wg_seen wf ok hT.hd hd hm)) ?_;rintro _ _ ⟨rfl,rfl⟩;refine O.sT 7 rfl zF ?_;refine zz 10 ?_;refine O.call0 (.p rfl) rfl zD rfl rfl ((newR_c hs4)) ?_;rintro _ _ ⟨b13,m13,rfl,rfl⟩;refine zz 3 ?_;refine S.regionD (L:=[0,1,3,4,5,6,2,7,8,9,10,11,12]) F.mixed zD ?_;refine zz 4 ?_;refine .quiet (.p rfl) rfl (fun _=>.fieldObj fld77x0 rfl)<|.quiet (.p rfl) rfl (fun _=>.fieldObj fld74x1 rfl)<|OD.alt2 2 7 [7,8,9,10,11,12] [2,8,9,10,11,12] zD rfl rfl ?_ ?_
 ·refine ODt.callB (.p rfl) zD rfl zD rfl rfl (bs:=TreeO.wg tt b s (⟨Fr.emp,.slice aL L.length cL,.slice aW L.length cW,mid,M,cM,wf,ok⟩:TreeO d L)) zI (fun m hm hd=>tLeaves_c (wg_seen wf ok hT.hd hd hm) hT.ok hT.small) ?_
  rintro _ _ ⟨a16,c16,rfl,rfl⟩;refine OD.loadL (.p rfl) zD (fun _=>.loadObj flat53 zF zC zF) ?_;refine OD.callB (.p rfl) zD rfl zD rfl rfl (bs:=[OwnP Rp.str 9 (.slice aW L.length cW) (L.map fun y=>wayOf y.1)]) zI (fun m hm hd=>cloneStr_c ((Sat.arr hm).mono (Fr.sub_add_right hd)) zB) ?_;rintro _ _ ⟨a22,c22,rfl,rfl⟩;refine .quiet (.p rfl) rfl (fun _=>.build (cs:=[_,_]) underlying74 rfl rfl rfl rfl rfl) ?_;refine zz 2 ?_;refine OD.storeObj (news:=[.slice a16 L.length c16,.slice a22 (L.map fun y=>wayOf y.1).length c22]) rfl zD zD rfl rfl zR rfl zC zO ?_;refine ODx.nil (S.seq (S.seq ?_));rw [hml];refine S.objIs (b:=b13) (cs' :=[.slice a16 L.length c16,.slice a22 L.length c22,.int .i64 (s:Int),.map (some m13)]) zC zF ?_;refine zz 5 ?_;refine O.opE (.p rfl) (.rangeK underlying75 rfl zC) ?_;rintro _ _ ⟨it30,rfl,rfl⟩;refine O.nil<|S.block<|S.pk (ζ:=[IterK (K:=List UInt8) it30 mid cM [],MapK encS mid M cM,MapK encS m13 [] 0,obj b 77 [.slice aL L.length cL,.slice aW L.length cW,.int .i64 (s:Int),.map (some mid)],OwnP (Rp.cv d Fr.emp LeafRp) 31 (.slice aL L.length cL) L,OwnP Rp.str 9 (.slice aW L.length cW) (L.map fun y=>wayOf y.1),ListP (LeafG tys) 31 (.slice a16 L.length c16) L,obj b13 77 [.slice a16 L.length c16,.slice a22 L.length c22,.int .i64 (s:Int),.map (some m13)],OwnP Rp.str 9 (.slice a22 L.length c22) (L.map fun y=>wayOf y.1)]) zN ?_
  refine S.loopK4 (ι:=List (KEnt (List UInt8))) (κ:=List (KEnt (List UInt8))) (υ:=List (KEnt (List UInt8))) (τ:=Nat) (fun dn td M2 c2=>M.Perm (dn++td)∧WfK M2 c2∧SumsOk d Fr.emp L M2) (fun dn td M2 c2=>[]) [(3,_),(30,_)] (fun dn td M2 c2=>[IterK it30 mid cM dn,MapK encS mid M cM,MapK encS m13 M2 c2,obj b 77 [.slice aL L.length cL,.slice aW L.length cW,.int .i64 (s:Int),.map (some mid)],OwnP (Rp.cv d Fr.emp LeafRp) 31 (.slice aL L.length cL) L,OwnP Rp.str 9 (.slice aW L.length cW) (L.map fun y=>wayOf y.1),ListP (LeafG tys) 31 (.slice a16 L.length c16) L,obj b13 77 [.slice a16 L.length c16,.slice a22 L.length c22,.int .i64 (s:Int),.map (some m13)],OwnP Rp.str 9 (.slice a22 L.length c22) (L.map fun y=>wayOf y.1)]) (fun dn td M2 c2=>td.length) ([]) (M) ([]) (0) (by exact ⟨List.Perm.refl _,WfK.nil,SumsOk.nil _ _ _⟩) (.nil) zq (by with_reducible rfl) fun dn td M2 c2 hx ih=>?_;have hm1:=meltRefl (g:=g);obtain ⟨hp,wf2,ok2⟩:=hx;refine S.seq<|S.region rfl<|O.nextK (.p rfl) rfl wf hp zC zC (fun h31=>?_) (fun y31 t131 t231 h31=>?_)
  ·clear ih
   refine zz 6 ?_;refine S.foldS (A:=TreeP tt d Fr.emp b s L) (bs:=TreeO.wg tt b s (⟨Fr.emp,.slice aL L.length cL,.slice aW L.length cW,mid,M,cM,wf,ok⟩:TreeO d L)) zI (fun m h=>TreeP.fold ⟨Fr.emp,.slice aL L.length cL,.slice aW L.length cW,mid,M,cM,wf,ok⟩ h) ?_;refine S.foldS (A:=TreeX tt d b13 s L) (bs:=[ListP (LeafG tys) 31 (.slice a16 L.length c16) L,obj b13 77 [.slice a16 L.length c16,.slice a22 L.length c22,.int .i64 (s:Int),.map (some m13)],OwnP Rp.str 9 (.slice a22 L.length c22) (L.map fun y=>wayOf y.1),MapK encS m13 M2 c2]) zI (by intro m h;exact made_tt (vL:=.slice a16 L.length c16) (vW:=.slice a22 L.length c22) (mid:=m13) (c:=c2) (M:=M2) wf2 ok2 h) ?_;refine zz 4 ?_;exact S.rt results41 rfl hR ⟨b13,rfl,rfl⟩
  ·subst h31
   have hmem:y31∈M:=hp.mem_iff.2 zH;have hgk:=ok y31.1 y31.2.1 (getK_mem wf.2.2 hmem);have hp2:M.Perm ((dn++[y31])++(t131++t231)):=hp.trans (by rw [zaa];exact List.Perm.append_left _ List.perm_middle);refine zz 8 ?_;refine O.op (.p rfl) (.entryK rfl wf hmem zC zC) ?_;refine zz 10 ?_;refine O.q 2 rfl<|O.opU rfl (.mapUpdateK underlying75 (keyOkS underlying9) rfl rfl rfl zC) ?_;refine zz 2 ?_;exact S.pw (ih (dn++[y31]) (t131++t231) (putK M2 c2 y31.1 y31.2.1) (clkK M2 c2 y31.1) (by exact ⟨hp2,putK_wf wf2 y31.1 y31.2.1,ok2.put (c:=c2) hgk.1 hgk.2⟩) zH)
 ·refine ODt.loadL (.p rfl) zD (fun _=>.loadObj flat53 zF zC zF) ?_
  refine OD.callB (.p rfl) zD rfl zD rfl rfl (bs:=TreeO.wg tt b s (⟨Fr.emp,.slice aL L.length cL,.slice aW L.length cW,mid,M,cM,wf,ok⟩:TreeO d L)) zI (fun m hm hd=>tLeaves_c (wg_seen wf ok hT.hd hd hm) hT.ok hT.small) ?_;rintro _ _ ⟨a16,c16,rfl,rfl⟩;refine OD.callB (.p rfl) zD rfl zD rfl rfl (bs:=[OwnP Rp.str 9 (.slice aW L.length cW) (L.map fun y=>wayOf y.1)]) zI (fun m hm hd=>cloneStr_c ((Sat.arr hm).mono (Fr.sub_add_right hd)) zB) ?_;rintro _ _ ⟨a22,c22,rfl,rfl⟩;refine .quiet (.p rfl) rfl (fun _=>.build (cs:=[_,_]) underlying74 rfl rfl rfl rfl rfl) ?_;refine zz 2 ?_;refine OD.storeObj (news:=[.slice a16 L.length c16,.slice a22 (L.map fun y=>wayOf y.1).length c22]) rfl zD zD rfl rfl zR rfl zC zO ?_;refine ODx.nil (S.seq (S.seq ?_));rw [hml];refine S.objIs (b:=b13) (cs' :=[.slice a16 L.length c16,.slice a22 L.length c22,.int .i64 (s:Int),.map (some m13)]) zC zF ?_;refine zz 5 ?_;refine O.opE (.p rfl) (.rangeK underlying75 rfl zC) ?_;rintro _ _ ⟨it30,rfl,rfl⟩
  refine O.nil<|S.block<|S.pk (ζ:=[IterK (K:=List UInt8) it30 mid cM [],MapK encS mid M cM,MapK encS m13 [] 0,obj b 77 [.slice aL L.length cL,.slice aW L.length cW,.int .i64 (s:Int),.map (some mid)],OwnP (Rp.cv d Fr.emp LeafRp) 31 (.slice aL L.length cL) L,OwnP Rp.str 9 (.slice aW L.length cW) (L.map fun y=>wayOf y.1),ListP (LeafG tys) 31 (.slice a16 L.length c16) L,obj b13 77 [.slice a16 L.length c16,.slice a22 L.length c22,.int .i64 (s:Int),.map (some m13)],OwnP Rp.str 9 (.slice a22 L.length c22) (L.map fun y=>wayOf y.1)]) zN ?_;refine S.loopK4 (ι:=List (KEnt (List UInt8))) (κ:=List (KEnt (List UInt8))) (υ:=List (KEnt (List UInt8))) (τ:=Nat) (fun dn td M2 c2=>M.Perm (dn++td)∧WfK M2 c2∧SumsOk d Fr.emp L M2) (fun dn td M2 c2=>[]) [(3,_),(30,_)] (fun dn td M2 c2=>[IterK it30 mid cM dn,MapK encS mid M cM,MapK encS m13 M2 c2,obj b 77 [.slice aL L.length cL,.slice aW L.length cW,.int .i64 (s:Int),.map (some mid)],OwnP (Rp.cv d Fr.emp LeafRp) 31 (.slice aL L.length cL) L,OwnP Rp.str 9 (.slice aW L.length cW) (L.map fun y=>wayOf y.1),ListP (LeafG tys) 31 (.slice a16 L.length c16) L,obj b13 77 [.slice a16 L.length c16,.slice a22 L.length c22,.int .i64 (s:Int),.map (some m13)],OwnP Rp.str 9 (.slice a22 L.length c22) (L.map fun y=>wayOf y.1)]) (fun dn td M2 c2=>td.length) ([]) (M) ([]) (0) (by exact ⟨List.Perm.refl _,WfK.nil,SumsOk.nil _ _ _⟩) (.nil) zq (by with_reducible rfl) fun dn td M2 c2 hx ih=>?_
  have hm1:=meltRefl (g:=g);obtain ⟨hp,wf2,ok2⟩:=hx;refine S.seq<|S.region rfl<|O.nextK (.p rfl) rfl wf hp zC zC (fun h31=>?_) (fun y31 t131 t231 h31=>?_)
  ·clear ih
   refine zz 6 ?_;refine S.foldS (A:=TreeP tt d Fr.emp b s L) (bs:=TreeO.wg tt b s (⟨Fr.emp,.slice aL L.length cL,.slice aW L.length cW,mid,M,cM,wf,ok⟩:TreeO d L)) zI (fun m h=>TreeP.fold ⟨Fr.emp,.slice aL L.length cL,.slice aW L.length cW,mid,M,cM,wf,ok⟩ h) ?_;refine S.foldS (A:=TreeX tt d b13 s L) (bs:=[ListP (LeafG tys) 31 (.slice a16 L.length c16) L,obj b13 77 [.slice a16 L.length c16,.slice a22 L.length c22,.int .i64 (s:Int),.map (some m13)],OwnP Rp.str 9 (.slice a22 L.length c22) (L.map fun y=>wayOf y.1),MapK encS m13 M2 c2]) zI (by intro m h;exact made_tt (vL:=.slice a16 L.length c16) (vW:=.slice a22 L.length c22) (mid:=m13) (c:=c2) (M:=M2) wf2 ok2 h) ?_;refine zz 4 ?_;exact S.rt results41 rfl hR ⟨b13,rfl,rfl⟩
  ·subst h31
   have hmem:y31∈M:=hp.mem_iff.2 zH;have hgk:=ok y31.1 y31.2.1 (getK_mem wf.2.2 hmem);have hp2:M.Perm ((dn++[y31])++(t131++t231)):=hp.trans (by rw [zaa];exact List.Perm.append_left _ List.perm_middle);refine zz 8 ?_;refine O.op (.p rfl) (.entryK rfl wf hmem zC zC) ?_;refine zz 10 ?_;refine O.q 2 rfl<|O.opU rfl (.mapUpdateK underlying75 (keyOkS underlying9) rfl rfl rfl zC) ?_;refine zz 2 ?_;exact S.pw (ih (dn++[y31]) (t131++t231) (putK M2 c2 y31.1 y31.2.1) (clkK M2 c2 y31.1) (by exact ⟨hp2,putK_wf wf2 y31.1 y31.2.1,ok2.put (c:=c2) hgk.1 hgk.2⟩) zH)
def NoTree (r:Fr) (v:Value):Prop:=Con prog 87 #[v] r [] (Ret fun u η=>u=.bool false∧η=[])
theorem NoTree.mono {r r' :Fr} {v:Value} (h:NoTree r v) (e:r.sub r'):NoTree r' v:=Con.sub h e
theorem noTree_nil {r:Fr}:NoTree r (.pointer none):=there_nil
theorem noTree_zero {r:Fr} {b:Nat} (h:At r ⟨b,0,none⟩ zeroT):NoTree r (.pointer (some ⟨b,0,none⟩)):=there_zero h
theorem nCopy_c {r:Fr} {v:Value} (h:NoTree r v):Con prog 41 #[v] r [] (Ret fun u η=>u=.pointer none∧η=[]):=by
 refine Con.o func41 fun g hg R hR=>?_;have h:=h.mono hg;refine zz 8 ?_;refine O.v0 (.p rfl) rfl zD rfl rfl (h) ?_;refine O.sF 7 rfl zF<|zz 7 ?_;exact S.rt results41 rfl hR ⟨rfl,rfl⟩
end Go.Proofs.YtojafegjlahajaaGreatDoor
