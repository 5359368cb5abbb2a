/- Texts of this proof. -/
import Derived.Test.YtojafegjlahajaaGreatDoorQPut3
import Derived.Test.YtojafegjlahajaaGreatDoorQSpPut2
import Derived.Test.YtojafegjlahajaaGreatDoorQLaw12a
open Go Go.Sp Go.Proofs.Tryz
set_option maxRecDepth 100000
set_option maxHeartbeats 1000000
attribute [local irreducible] obj Own OwnP
namespace Go.Proofs.YtojafegjlahajaaGreatDoor
attribute [local irreducible] treeNode treeSum
theorem treeX_zS {d:Fr} {b s:Nat} {L:List LeafT} {m:Fr} (h:Sat [TreeX tt d b s L] m):TreeZ tt d b s L L m:=by
 obtain ⟨m1,_,_,s1,_,o,_⟩:=h;obtain ⟨x,hx⟩:=TreeX.z o;exact ⟨x,Sat.mono s1 hx⟩
theorem putE_cut {s:Nat}:∀ {l:List LeafT} {i:Nat} (hi:i<l.length),(∀ x∈l.take i,putOk s x)→putE1 s l[i]≠0→putE s l=putE1 s l[i]
 |x::l,0,_,_,ne=>by unfold putE;rw [if_neg (by simpa using ne)];rfl
 |x::l,i+1,hi,h,ne=>by
  have h0:putE1 s x=0:=putE1_0.2 (h x zI);have:putE s (x::l)=putE s l:=by
   show (if putE1 s x=0 then putE s l else putE1 s x)=putE s l
   rw [if_pos h0]
  rw [this];exact putE_cut (l:=l) (i:=i) (by simpa using hi) (fun y hy=>h y (by simp [hy])) (by simpa using ne)
theorem take_all {α:Type} {P:α→Prop} {l:List α} {i:Nat} (hi:i<l.length) (h:∀ x∈l.take i,P x) (hp:P l[i]):∀ x∈l.take (i+1),P x:=fun x hx=>by
 rw [ztg hi] at hx
 rcases List.mem_append.1 hx with q|q
 ·exact h x q
 ·rw [List.mem_singleton.1 q];exact hp
theorem putsL_len:∀ (l L:List LeafT),(putsL L l).length≤L.length+l.length
 |[],L=>Nat.le_refl _
 |x::l,L=>by
  have h1:=putsL_len l (putL L x);have h2:=putL_len L x;have e:putsL L (x::l)=putsL (putL L x) l:=rfl;rw [e,zlc];omega
theorem putsL_small {N:Nat}:∀ (l L:List LeafT),(∀ z∈L,z.2.1.length≤N)→(∀ z∈l,z.2.1.length≤N)→∀ z∈putsL L l,z.2.1.length≤N
 |[],_,h,_=>h
 |x::l,L,h,hl=>putsL_small l (putL L x) (putL_small h (hl x zI)) fun z hz=>hl z (by simp [hz])
theorem putE1_key {s:Nat} {x:LeafT} (h:¬ (keyOk x.1∧shardOf x.1=s)):putE1 s x=22:=by unfold putE1;rw [if_pos h]
theorem putE1_set {s:Nat} {x:LeafT} (h:keyOk x.1∧shardOf x.1=s) (k:¬ ofK x.1 x.2.1):putE1 s x=4:=by unfold putE1;rw [if_neg (by simp [h]),if_pos k]
set_option maxHeartbeats 800000 in
theorem tPut_c {r d:Fr} {b s:Nat} {L l:List LeafT} {va:Value} (hT:TreeH r d s L) (ha:Arr LeafRp r va l) (hl:L.length+l.length≤10000000) (hsm:∀ y∈l,y.2.1.length≤10000000) :
  Con prog 30 #[.pointer (some ⟨b,0,none⟩),va] r [TreeX tt d b s L] (Ret fun u η=>u=.int .i64 (putE s l)∧η=[TreeX tt d b s (if putE s l=0 then putsL L l else L)]):=by
 obtain ⟨a1,c1,rfl⟩:=ha.shape;refine Con.o func30 fun g hg R hR=>?_;have hT:=hT.mono hg;have ha:=ha.mono hg;refine zz 8 ?_;refine O.callB (.p rfl) rfl zC rfl rfl (bs:=[TreeX tt d b s L]) zG (fun m hm hd=>there_yes (TreeX.lent hT.hd hd hm)) ?_;rintro _ _ ⟨rfl,rfl⟩;refine O.sT 12 rfl zF ?_;refine zz 12 ?_;refine S.loopK (ι:=Nat) (fun i=>i≤l.length∧∀ x∈l.take i,putOk s x) (fun i=>[(16,.int .i64 (i:Int))]) [(0,_),(1,_),(14,_),(15,_)] (fun i=>[TreeX tt d b s L]) (fun i=>l.length - i) (0) (by exact ⟨Nat.zero_le _,fun x hx=>by cases hx⟩) zq zq rfl fun i hx ih=>?_;have hm1:=meltRefl (g:=g);obtain ⟨hx1,hx2⟩:=hx;refine zz 5 ?_;refine S.cd rfl (fun h17=>?_) fun h17=>?_
 ·have hi:i<l.length:=by omega
  have hli:=hsm _ (List.getElem_mem hi)
  by_cases k1:keyOk l[i].1
  ·have k0:l[i].1.length≤64:=k1.2
   by_cases k2:shardOf l[i].1=s
   ·by_cases k3:ofK l[i].1 l[i].2.1
    ·
     refine zz 5 ?_;refine O.ia (.p rfl) underlying25 size31 rfl rfl (show _=(((i):Nat):Int) by omega) zA (h:=fun p18 cs18 hp18 hr18=>?_);obtain ⟨la1_18,lc1_18,rfl,ho0_18,ha1_18⟩:=LeafRp.sh hr18;refine O.op (.p rfl) (.loadAgg isAgg31 zC rfl hp18) ?_;refine O.opE (.p rfl) (.alloc (cs:=[.string ⟨#[]⟩,.slice none 0 0]) zeroValue31 rfl) ?_;rintro _ _ ⟨b6,rfl,rfl⟩;refine zz 5 ?_;refine S.frzO zD fun g hs hm h6=>?_;replace hg:=zfs hg hs;replace hR:=melted hR hm
     try replace hT:=hT.mono hs
     try replace ha:=ha.mono hs
     try replace hp18:=hp18.mono hs
     try replace ha1_18:=ha1_18.mono hs
     try replace hr18:=hr18.mono hs
     replace hm1:=meltTrans hm1 hm;clear hs hm;refine zz 3 ?_;refine O.v0 (.p rfl) rfl zC rfl rfl ((mlong_c zB)) ?_;refine O.sT 23 rfl (by exact zdt k1) ?_;refine zz 4 ?_;refine S.regionD (L:=[0,1,3,4,5,2,6,7,8]) F.mixed zC ?_;refine zz 5 ?_;refine OD.alt2 2 6 [6,7,8] [2,7,8] zC rfl rfl ?_ ?_
     ·refine ODt.call0 (.p rfl) zC rfl zC rfl rfl ((shOf_c hT.hH hT.hK zB)) ?_
      rintro _ _ ⟨rfl,rfl⟩;refine OD.loadL (.p rfl) zC (fun _=>.treeShard flat3 zF zD) ?_;refine zz 1 ?_;refine OD.sF 32 rfl (by exact zdf zB) ?_;refine zz 9 ?_;refine O.v0 (.p rfl) rfl zC rfl rfl ((mof_c ha1_18 zB)) ?_;refine O.sT 38 rfl (by exact zdt k3) ?_;refine zz 11 ?_;exact S.melt hm1 (S.wk (ih (i+1) (by exact ⟨by omega,take_all hi hx2 ⟨⟨k1,k2⟩,k3⟩⟩) zB))
     ·refine ODt.loadL (.p rfl) zC (fun _=>.treeShard flat3 zF zD) ?_
      refine OD.v0 (.p rfl) zC rfl zC rfl rfl ((shOf_c hT.hH hT.hK zB))<|zz 1 ?_;refine OD.sF 32 rfl (by exact zdf zB)<|zz 9 ?_;refine O.v0 (.p rfl) rfl zC rfl rfl ((mof_c ha1_18 zB)) ?_;refine O.sT 38 rfl (by exact zdt k3)<|zz 11 ?_;exact S.melt hm1 (S.wk (ih (i+1) (by exact ⟨by omega,take_all hi hx2 ⟨⟨k1,k2⟩,k3⟩⟩) zB))
    ·have e4:=putE1_set ⟨k1,k2⟩ k3
     have hE:putE s l=4:=(putE_cut hi hx2 (by rw [e4];decide)).trans e4;rw [hE,if_neg zE] at hR;refine zz 5 ?_;refine O.ia (.p rfl) underlying25 size31 rfl rfl (show _=(((i):Nat):Int) by omega) zA (h:=fun p18 cs18 hp18 hr18=>?_);obtain ⟨la1_18,lc1_18,rfl,ho0_18,ha1_18⟩:=LeafRp.sh hr18;refine O.op (.p rfl) (.loadAgg isAgg31 zC rfl hp18) ?_;refine O.opE (.p rfl) (.alloc (cs:=[.string ⟨#[]⟩,.slice none 0 0]) zeroValue31 rfl) ?_;rintro _ _ ⟨b6,rfl,rfl⟩;refine zz 5 ?_;refine S.frzO zD fun g hs hm h6=>?_;replace hg:=zfs hg hs;replace hR:=melted hR hm
     try replace hT:=hT.mono hs
     try replace ha:=ha.mono hs
     try replace hp18:=hp18.mono hs
     try replace ha1_18:=ha1_18.mono hs
     try replace hr18:=hr18.mono hs
     replace hm1:=meltTrans hm1 hm;clear hs hm;refine zz 3 ?_;refine O.v0 (.p rfl) rfl zC rfl rfl ((mlong_c zB)) ?_;refine O.sT 23 rfl (by exact zdt k1) ?_;refine zz 4 ?_;refine S.regionD (L:=[0,1,3,4,5,2,6,7,8]) F.mixed zC ?_;refine zz 5 ?_;refine OD.alt2 2 6 [6,7,8] [2,7,8] zC rfl rfl ?_ ?_
     ·refine ODt.call0 (.p rfl) zC rfl zC rfl rfl ((shOf_c hT.hH hT.hK zB)) ?_
      rintro _ _ ⟨rfl,rfl⟩;refine OD.loadL (.p rfl) zC (fun _=>.treeShard flat3 zF zD) ?_;refine zz 1 ?_;refine OD.sF 32 rfl (by exact zdf zB) ?_;refine zz 9 ?_;refine O.v0 (.p rfl) rfl zC rfl rfl ((mof_c ha1_18 zB)) ?_;refine O.sF 38 rfl (by exact zdf k3) ?_;refine zz 8 ?_;exact S.rt results30 rfl hR ⟨rfl,rfl⟩
     ·refine ODt.loadL (.p rfl) zC (fun _=>.treeShard flat3 zF zD) ?_
      refine OD.v0 (.p rfl) zC rfl zC rfl rfl ((shOf_c hT.hH hT.hK zB))<|zz 1 ?_;refine OD.sF 32 rfl (by exact zdf zB)<|zz 9 ?_;refine O.v0 (.p rfl) rfl zC rfl rfl ((mof_c ha1_18 zB)) ?_;refine O.sF 38 rfl (by exact zdf k3)<|zz 8 ?_;exact S.rt results30 rfl hR ⟨rfl,rfl⟩
   ·have e4:=putE1_key (s:=s) (x:=l[i]) (fun q=>k2 q.2)
    have hE:putE s l=22:=(putE_cut hi hx2 (by rw [e4];decide)).trans e4;rw [hE,if_neg zE] at hR;refine zz 5 ?_;refine O.ia (.p rfl) underlying25 size31 rfl rfl (show _=(((i):Nat):Int) by omega) zA (h:=fun p18 cs18 hp18 hr18=>?_);obtain ⟨la1_18,lc1_18,rfl,ho0_18,ha1_18⟩:=LeafRp.sh hr18;refine O.op (.p rfl) (.loadAgg isAgg31 zC rfl hp18) ?_;refine O.opE (.p rfl) (.alloc (cs:=[.string ⟨#[]⟩,.slice none 0 0]) zeroValue31 rfl) ?_;rintro _ _ ⟨b6,rfl,rfl⟩;refine zz 5 ?_;refine S.frzO zD fun g hs hm h6=>?_;replace hg:=zfs hg hs;replace hR:=melted hR hm
    try replace hT:=hT.mono hs
    try replace ha:=ha.mono hs
    try replace hp18:=hp18.mono hs
    try replace ha1_18:=ha1_18.mono hs
    try replace hr18:=hr18.mono hs
    replace hm1:=meltTrans hm1 hm;clear hs hm;refine zz 3 ?_;refine O.v0 (.p rfl) rfl zC rfl rfl ((mlong_c zB)) ?_;refine O.sT 23 rfl (by exact zdt k1) ?_;refine zz 4 ?_;refine S.regionD (L:=[0,1,3,4,5,2,6,7,8]) F.mixed zC ?_;refine zz 5 ?_;refine OD.alt2 2 6 [6,7,8] [2,7,8] zC rfl rfl ?_ ?_
    ·refine ODt.call0 (.p rfl) zC rfl zC rfl rfl ((shOf_c hT.hH hT.hK zB)) ?_
     rintro _ _ ⟨rfl,rfl⟩;refine OD.loadL (.p rfl) zC (fun _=>.treeShard flat3 zF zD) ?_;refine zz 1 ?_;refine OD.sT 32 rfl (by exact zdt zB) ?_;refine zz 7 ?_;exact S.rt results30 rfl hR ⟨rfl,rfl⟩
    ·refine ODt.loadL (.p rfl) zC (fun _=>.treeShard flat3 zF zD) ?_
     refine OD.v0 (.p rfl) zC rfl zC rfl rfl ((shOf_c hT.hH hT.hK zB))<|zz 1 ?_;refine OD.sT 32 rfl (by exact zdt zB)<|zz 7 ?_;exact S.rt results30 rfl hR ⟨rfl,rfl⟩
  ·have e4:=putE1_key (s:=s) (x:=l[i]) (fun q=>k1 q.1)
   have hE:putE s l=22:=(putE_cut hi hx2 (by rw [e4];decide)).trans e4;rw [hE,if_neg zE] at hR;refine zz 5 ?_;refine O.ia (.p rfl) underlying25 size31 rfl rfl (show _=(((i):Nat):Int) by omega) zA (h:=fun p18 cs18 hp18 hr18=>?_);obtain ⟨la1_18,lc1_18,rfl,ho0_18,ha1_18⟩:=LeafRp.sh hr18;refine O.op (.p rfl) (.loadAgg isAgg31 zC rfl hp18) ?_;refine O.opE (.p rfl) (.alloc (cs:=[.string ⟨#[]⟩,.slice none 0 0]) zeroValue31 rfl) ?_;rintro _ _ ⟨b6,rfl,rfl⟩;refine zz 8 ?_;refine O.v0 (.p rfl) rfl zC rfl rfl ((mlong_c ho0_18)) ?_;refine O.sF 23 rfl (by exact zdf k1) ?_;refine zz 10 ?_;exact S.rt results30 rfl hR ⟨rfl,rfl⟩
 ·clear ih
  have hi:i=l.length:=by omega
  subst hi;rw [List.take_length] at hx2;have hE:putE s l=0:=putE_0.2 hx2;rw [hE,if_pos rfl] at hR;refine S.imp (η' :=[TreeX tt d b s (putsL L (l.take 0))]) (fun m h=>h) ?_;refine zz 9 ?_;refine S.loopK (ι:=Nat) (fun i=>i≤l.length) (fun i=>[(43,.int .i64 (i:Int))]) [(0,_),(41,_),(42,_)] (fun i=>[TreeX tt d b s (putsL L (l.take i))]) (fun i=>l.length - i) (0) zI zq zq rfl fun i hx ih=>?_;have hm2:=meltRefl (g:=g);refine zz 5 ?_;refine S.cd rfl (fun h44=>?_) fun h44=>?_
  ·have hi:i<l.length:=by omega
   have hli:=hsm _ (List.getElem_mem hi);have hoi:=hx2 _ (List.getElem_mem hi);have k0:l[i].1.length≤64:=hoi.1.1.2;have hLi:TreeOk s (putsL L (l.take i)):=TreeOk.puts hT.ok (fun x hx=>hx2 x (List.mem_of_mem_take hx));have hn:=putsL_len (l.take i) L;have htl:(l.take i).length=i:=by simp;omega
   have hsn:putsL L (l.take (i+1))=putL (putsL L (l.take i)) (l[i].1,l[i].2.1,()):=putsL_take hi;generalize putsL L (l.take i)=Li at hLi hn hsn ⊢;refine zz 5 ?_;refine O.ia (.p rfl) underlying25 size31 rfl rfl (show _=(((i):Nat):Int) by omega) zA (h:=fun p45 cs45 hp45 hr45=>?_);obtain ⟨la1_45,lc1_45,rfl,ho0_45,ha1_45⟩:=LeafRp.sh hr45;refine O.op (.p rfl) (.loadAgg isAgg31 zC rfl hp45) ?_;refine O.opE (.p rfl) (.alloc (cs:=[.string ⟨#[]⟩,.slice none 0 0]) zeroValue31 rfl) ?_;rintro _ _ ⟨b8,rfl,rfl⟩;refine zz 1 ?_;refine O.nil<|S.seq<|S.frzO zD fun g hs hm h8=>?_;replace hg:=zfs hg hs;replace hR:=melted hR hm
   try replace hT:=hT.mono hs
   try replace ha:=ha.mono hs
   try replace hp45:=hp45.mono hs
   try replace ha1_45:=ha1_45.mono hs
   try replace hr45:=hr45.mono hs
   replace hm1:=meltTrans hm1 hm;replace hm2:=meltTrans hm2 hm;clear hs hm;refine S.foldS (A:=TreeZ tt d b s Li Li) (bs:=[TreeX tt d b s Li]) zG (fun m h=>treeX_zS h) ?_;refine S.regionD (L:=[0,1,2,3,4,6,7,5,8,9,10]) F.mixed zC ?_;refine zz 7 ?_;refine OD.v0 (.p rfl) zC rfl zC rfl rfl ((sClone_c zB)) ?_;refine OD.call0 (.p rfl) zC rfl zC rfl rfl ((own_c ha1_45 hoi.2.1 zB)) ?_;rintro _ _ ⟨a55,c55,rfl,rfl⟩;refine .quiet (.p rfl) rfl (fun _=>.build (cs:=[_,_]) underlying31 rfl rfl rfl rfl rfl)<|OD.callSs (.p rfl) zC rfl zC rfl rfl (bs:=[TreeZ tt d b s Li Li,ListP (RecG tys) 102 (.slice a55 l[i].2.1.length c55) l[i].2.1]) zG (stand_c hT.hd hLi.2 zB zB hT.hH hT.hK) ?_;rintro _ _ ⟨rfl,rfl⟩;refine zz 5 ?_;refine O.v0 (.p rfl) rfl zC rfl rfl ((shBits_c hT.hH hT.hK zB)) ?_;refine zz 3 ?_;rw [← hsn];refine S.open (bs:=fun x:TreeO d Li=>TreeO.wz tt b s x (putsL L (l.take (i+1)))) zD (fun m h=>TreeZ.opn h) fun x=>?_;obtain ⟨k,vL,vW,mid,M,cM,wf,ok⟩:=x;simp only [TreeO.wz,List.cons_append,List.nil_append];refine zz 5 ?_;refine O.opE (.p rfl) (.rangeK underlying75 rfl zD) ?_;rintro _ _ ⟨it65,rfl,rfl⟩;refine O.nil<|S.block<|S.pk (ζ:=[IterK (K:=List UInt8) it65 mid cM [],MapK encS mid M cM,IsP k,obj b 77 [vL,vW,.int .i64 (s:Int),.map (some mid)],OwnP (Rp.cv d k LeafRp) 31 vL (putsL L (l.take (i+1))),OwnP Rp.str 9 vW ((putsL L (l.take (i+1))).map fun y=>wayOf y.1)]) zP ?_
   refine S.loopK3 (ι:=List (KEnt (List UInt8))) (κ:=List (KEnt (List UInt8))) (υ:=List (KEnt (List UInt8))) (fun dn td cur=>Thin M (fun p=>p.isPrefixOf (wayOf l[i].1)) cM dn td cur) (fun dn td cur=>[]) [(0,_),(9,_),(41,_),(42,_),(43,_),(65,_)] (fun dn td cur=>[IterK it65 mid cM dn,MapK encS mid cur cM,IsP k,obj b 77 [vL,vW,.int .i64 (s:Int),.map (some mid)],OwnP (Rp.cv d k LeafRp) 31 vL (putsL L (l.take (i+1))),OwnP Rp.str 9 vW ((putsL L (l.take (i+1))).map fun y=>wayOf y.1)]) (fun dn td cur=>td.length) ([]) (M) (M) (by exact Thin.start wf) (.nil) zq (by with_reducible rfl) fun dn td cur hx ih=>?_;have hm3:=meltRefl (g:=g);refine S.seq<|S.region rfl<|O.nextKD (.p rfl) rfl hx.wfM hx.hp hx.wf hx.sub hx.left zD zD (fun h66=>?_) (fun y66 t166 t266 h66=>?_)
   ·clear ih
    subst h66;have okn:SumsOk d k (putsL L (l.take (i+1))) cur:=by rw [hsn];exact ok.thin hLi.2 hx
    refine zz 6 ?_;refine S.foldS (A:=TreeX tt d b s (putsL L (l.take (i+1)))) (bs:=TreeO.ws tt b s ⟨k,vL,vW,mid,cur,cM,hx.wf,okn⟩) zG (fun m h=>TreeX.fold _ h) ?_;refine zz 4 ?_;exact S.melt hm2 (S.pw (ih (i+1) zB zB))
   ·subst h66
    have hmem:y66∈cur:=hx.left _ zI;have hpl:y66.1.length≤510:=(ok y66.1 y66.2.1 (getK_mem wf.2.2 (hx.sub _ hmem))).1.1;refine zz 8 ?_;refine O.op (.p rfl) (.entryK rfl hx.wf hmem zD zD) ?_;refine zz 4 ?_
    by_cases qq:y66.1.isPrefixOf (wayOf l[i].1)=true
    ·
     refine zz 3 ?_;refine O.v0 (.p rfl) rfl zC rfl rfl ((hasPrefix_c (by rw [wayOf_len];decide) zB)) ?_;refine O.sT 72 rfl (by exact qq)<|zz 7 ?_;refine O.q 1 rfl<|O.deleteK rfl underlying75 (keyOkS underlying9) rfl rfl zD<|zz 2 ?_;exact S.pw (ih (dn++[y66]) (t166++t266) (delK cur y66.1) (by exact hx.drop) zI)
    ·have qq' :=Bool.eq_false_iff.2 qq
     refine zz 3 ?_;refine O.v0 (.p rfl) rfl zC rfl rfl ((hasPrefix_c (by rw [wayOf_len];decide) zB)) ?_;refine O.sF 72 rfl (by exact qq')<|zz 4 ?_;exact S.pw (ih (dn++[y66]) (t166++t266) (cur) (by exact hx.keep qq') zI)
  ·clear ih
   have hi:i=l.length:=by omega
   subst hi;rw [List.take_length];refine zz 5 ?_;exact S.rt results30 rfl hR ⟨rfl,rfl⟩
theorem tLeaves_c {r:Fr} {b s:Nat} {L:List LeafT} (h:TreeA r b s L) (hok:TreeOk s L) (hs:L.length≤10000000∧∀ y∈L,y.2.1.length≤10000000) :
  Con prog 31 #[.pointer (some ⟨b,0,none⟩)] r [] (Ret fun v η=>∃ a c,v=.slice a L.length c∧η=[ListP (LeafG tys) 31 (.slice a L.length c) L]):=by
 have h0:=h;have hbL:=hs.1;obtain ⟨aL,cL,aW,cW,mid,h,hL,_⟩:=h;refine Con.o func31 fun g hg R hR=>?_;have h:=h.mono hg;have h0:=h0.mono hg;have hL:=hL.mono hg;refine S.listNil (LeafG tys) 31 ?_;refine zz 8 ?_;refine O.v0 (.p rfl) rfl zC rfl rfl ((there_yes h0)) ?_;refine O.sT 7 rfl zF ?_;refine zz 20 ?_;refine S.loopK2 (ι:=Nat) (κ:=Option Addr × Nat) (fun i u=>i≤L.length) (fun i u=>[(15,.int .i64 (i:Int)),(3,.slice u.1 (L.take i).length u.2)]) [(13,_),(14,_)] (fun i u=>[ListP (LeafG tys) 31 (.slice u.1 (L.take i).length u.2) (L.take i)]) (fun i u=>L.length - i) (0) ((none,0)) zI zq zq rfl fun i u hx ih=>?_;have hm1:=meltRefl (g:=g);refine zz 5 ?_;refine S.cd rfl (fun h16=>?_) fun h16=>?_
 ·have hi:i<L.length:=by omega
  have hset:=hs.2 _ (List.getElem_mem hi);have hleaf:=(hok.1 _ (List.getElem_mem hi)).1;have hsn:L.take i++[L[i]]=L.take (i+1):=(ztg hi).symm;have htl:(L.take i).length=i:=by simp;omega
  have htl2:(L.take (i+1)).length=i+1:=by simp;omega
  refine zz 5 ?_;refine O.ia (.p rfl) underlying25 size31 rfl rfl (show _=(((i):Nat):Int) by omega) zA (h:=fun p17 cs17 hp17 hr17=>?_);obtain ⟨la1_17,lc1_17,rfl,ho0_17,ha1_17⟩:=LeafRp.sh hr17;refine O.op (.p rfl) (.loadAgg isAgg31 zC rfl hp17) ?_;refine O.opE (.p rfl) (.alloc (cs:=[.string ⟨#[]⟩,.slice none 0 0]) zeroValue31 rfl) ?_;rintro _ _ ⟨b5,rfl,rfl⟩;refine zz 1 ?_;refine O.nil<|S.frzO zD fun g hs hm h5=>?_;replace hg:=zfs hg hs;replace hR:=melted hR hm
  try replace h:=h.mono hs
  try replace h0:=h0.mono hs
  try replace hL:=hL.mono hs
  try replace hp17:=hp17.mono hs
  try replace ha1_17:=ha1_17.mono hs
  try replace hr17:=hr17.mono hs
  replace hm1:=meltTrans hm1 hm;clear hs hm;refine S.listOpen (G:=LeafG tys) (k' :=2) rfl zD fun css hcl=>?_;rw [← hcl];refine S.regionD (L:=.range 10) F.mixed zC ?_;refine zz 5 ?_;refine OD.call0 (.p rfl) zC rfl zC rfl rfl ((own_c ha1_17 hleaf.2.1 zB)) ?_;rintro _ _ ⟨a24,c24,rfl,rfl⟩;refine .quiet (.p rfl) rfl (fun _=>.build (cs:=[_,_]) underlying31 rfl rfl rfl rfl rfl)<|OD.litP (T:=(Rp.cells 2)) (ys:=[_]) (.p rfl) zC underlying25 elem31 zE rfl rfl ⟨⟨rfl,rfl,by first|(simp;done)|(intro v hv;simp [Value.cells] at hv;rcases hv with rfl|rfl<;>rfl)|(refine List.forall_mem_cons.2 ⟨rfl,?_⟩;repeat (first|exact (fun _ h=>absurd h List.not_mem_nil)|refine List.forall_mem_cons.2 ⟨rfl,?_⟩))⟩,trivial⟩ zE (fun a26 c26=>?_);refine OD.appendO (.p rfl) zC (T:=(Rp.cells 2)) underlying25 elem31 zE rfl rfl zD zD zH zH (fun a27 c27=>?_);refine zz 3 ?_;refine S.foldS (A:=(LeafG tys).own [.string (str L[i].1),.slice a24 L[i].2.1.length c24] (L[i].1,L[i].2.1,())) (bs:=[ListP (RecG tys) 102 (.slice a24 L[i].2.1.length c24) L[i].2.1]) zG (fun m h=>LeafG.mk (by have:=hleaf.1.2;omega) h) ?_;refine S.listPut (G:=LeafG tys) (k' :=2) rfl zD zD zD ?_;rw [show (L[i].1,L[i].2.1,())=L[i] from rfl,hsn];refine S.slot 3 (v' :=.slice a27 (L.take (i+1)).length c27) rfl (by rw [hcl,htl,htl2];rfl) ?_;simp only [List.length_singleton];rw [show css.length+1=(L.take (i+1)).length by omega];refine zz 4 ?_
  exact S.melt hm1 (S.pw (ih (i+1) ((a27,c27)) zB zB))
 ·clear ih
  have hi:i=L.length:=by omega
  subst hi;rw [List.take_of_length_le zB];refine zz 6 ?_;exact S.rt results31 rfl hR ⟨u.1,u.2,rfl,rfl⟩
def pick (x n:Int):Int:=if n<1 then 0 else if x.tmod n<0 then x.tmod n+n else x.tmod n
theorem Pick_c {r:Fr} (x n:Int) (hn:InI64 n):Con prog 28 #[.int .i64 x,.int .i64 n] r [] (Ret fun v η=>v=.int .i64 (pick x n)∧η=[]):=by
 refine Con.o func28 fun g hg R hR=>?_;unfold InI64 at hn;refine zz 10 ?_;refine S.cd rfl (fun h6=>?_) fun h6=>?_
 ·refine zz 4 ?_
  refine S.ret results28 rfl fun w hw=>hR _ _ w ?_ hw;exact ⟨by simp [pick,h6],rfl⟩
 ·have b1:=Int.tmod_lt_of_pos x (show 0<n by omega)
  have b2:=Int.lt_tmod_of_pos x (show 0<n by omega);refine zz 5 ?_;refine O.op (.p rfl) (.rem rfl rfl zB) ?_;refine zz 8 ?_;refine S.cd rfl (fun h11=>?_) fun h11=>?_
  ·refine zz 11 ?_
   refine S.ret results28 rfl fun w hw=>hR _ _ w ?_ hw;exact ⟨by simp [pick,h6,h11],rfl⟩
  ·refine zz 6 ?_
   refine S.ret results28 rfl fun w hw=>hR _ _ w ?_ hw;exact ⟨by simp [pick,h6,h11],rfl⟩
attribute [local irreducible] putsL
theorem pick_nat12 (x:Int) {n:Nat} (hn:0<n):∃ k:Nat,pick x n=(k:Int)∧k<n:=by
 have b1:=Int.tmod_lt_of_pos x (show 0<(n:Int) by omega);have b2:=Int.lt_tmod_of_pos x (show 0<(n:Int) by omega);have b3:0≤pick x n∧pick x n<n:=by
  unfold pick
  split
  ·omega
  ·split<;>omega
 exact ⟨(pick x n).toNat,by omega,by omega⟩
theorem sright_nil:SRight ([]:List RecT):=by decide
theorem gone_ok {s:Nat} {L:List LeafT} (h:TreeOk s L) {x:LeafT} (hx:x∈L):putE s [(x.1,[],())]=0:=putE_0.2 fun y hy=>by
 rw [List.mem_singleton.1 hy];obtain ⟨⟨h1,_⟩,h5⟩:=h.1 x hx;exact ⟨⟨h1,h5⟩,sright_nil,fun h=>absurd h (Nat.lt_irrefl _)⟩
theorem one_leaf {h:Fr} {v v1:Value} {key:List UInt8} {xs:List RecT} (hk:key.length≤9223372036854775807) (h1:Arr RecRp h v1 xs) (ha:Arr (Rp.cells 2) h v [[.string (str key),v1]]):Arr LeafRp h v [(key,xs,())] :=
 Arr.ofCells (T:=LeafRp) (xs:=[(key,xs,())]) ha ⟨LeafRp.mk hk h1,trivial⟩ rfl
theorem puts_one (L:List LeafT) (x:LeafT):putsL L [x]=putL L x:=by unfold putsL;rfl
theorem puts_0 (L:List LeafT):putsL L []=L:=by unfold putsL;rfl
theorem goneL_take {L:List LeafT} {i:Nat} (hi:i<L.length):putL (putsL L (goneL (L.take i))) (L[i].1,[],())=putsL L (goneL (L.take (i+1))):=by
 have e:goneL (L.take (i+1))=goneL (L.take i)++[(L[i].1,[],())]:=by unfold goneL;rw [List.take_succ_eq_append_getElem hi,List.map_append];rfl
 rw [e];unfold putsL;rw [List.foldl_append];rfl
theorem puts_take {L l:List LeafT} {i:Nat} (hi:i<l.length):putL (putsL L (l.take i)) l[i]=putsL L (l.take (i+1)):=(putsL_take hi).symm
theorem goneL_ok {s:Nat} {L:List LeafT} (h:TreeOk s L) {i:Nat}:TreeOk s (putsL L (goneL (L.take i))):=TreeOk.puts h fun x hx=>by
 obtain ⟨y,hy,rfl⟩:=List.mem_map.1 hx;exact putE_0.1 (gone_ok h (List.mem_of_mem_take hy)) _ (List.mem_singleton.2 rfl)
theorem goneL_len (L:List LeafT):(goneL L).length=L.length:=List.length_map ..
theorem alike_bl {L l:List LeafT} {N:Nat} (h1:L.length≤N) (h2:l.length≤100) (h3:∀ y∈L,y.2.1.length≤10000000) (h4:∀ y∈l,y.2.1.length≤10000000) (hN:N≤1000):(putsL L l).length≤10000000∧∀ y∈putsL L l,y.2.1.length≤10000000:=by
 have:=putsL_len l L;exact ⟨by omega,putsL_small l L h3 h4⟩
theorem list_one {α:Type} {G:Gp α} {e:TypeId} {v:Value} {xs:List α} {m:Fr} (h:Sat [ListP G e v xs] m):Arr G.rp m v xs:=by
 obtain ⟨m1,_,_,s1,_,o,_⟩:=h;exact (ListP.arr o).mono s1
theorem merkleAlike_c {r:Fr} {z:Int} {va vb:Value} {l other:List LeafT} {p:List UInt8} (hz:InI64 z) (ha:Arr LeafRp r va l) (hb:Arr LeafRp r vb other) (hp:p.length≤9223372036854775807) (hH:At r ⟨0,0,none⟩ (w64s shaH)) (hK:At r ⟨1,0,none⟩ (w64s shaK)) :
  Con prog 4 #[.int .i64 z,va,vb,.string (str p)] r [] (Ret fun v η=>v=.bool true∧η=[]):=by
 obtain ⟨a1,c1,rfl⟩:=ha.shape;obtain ⟨a2,c2,rfl⟩:=hb.shape;obtain ⟨s,hs,hs4⟩:=pick_nat12 z (n:=4) zE;have hs' :pick z 4=(s:Int):=hs;have hps:(str p).size=p.length:=str_size_q p;refine Con.of (n:=177) _ rfl func4 rfl rfl rfl fun g hg R hR=>?_;have ha:=ha.mono hg;have hb:=hb.mono hg;have hH:=hH.mono hg;have hK:=hK.mono hg;refine S.seq<|S.region rfl<|O.q 1 rfl<|O.nil<|S.seq<|S.seq<|S.region rfl<|O.call0 (.p rfl) rfl zC rfl rfl ((awake_c hH hK)) ?_;rintro _ _ ⟨rfl,rfl⟩
 try simp only [zx1,zx2,zx3]
 refine O.sT 23 rfl zF ?_;refine O.op (.p rfl) (.not rfl)<|O.nil<|S.condF rfl<|S.skip<|S.seq<|S.seq<|S.region rfl<|O.q 1 rfl<|O.call0 (.p rfl) rfl zC rfl rfl ((light_c ha)) ?_;rintro _ _ ⟨ok1,hok1,rfl,rfl⟩
 try simp only [zx1,zx2,zx3]
 refine O.op (.p rfl) ((by first|exact .notD rfl|exact .not rfl)) ?_;refine O.q 1 rfl ?_
 first|refine O.caseD 28 rfl (fun h28=>?_) (fun h28=>?_)|refine O.caseB 28 rfl (fun h28=>?_) (fun h28=>?_)
 ·refine O.q 9 rfl<|O.nil<|S.condT rfl<|S.seq<|S.region rfl<|O.q 1 rfl<|O.nil ?_
  exact S.rt results4 rfl hR ⟨rfl,rfl⟩
 ·refine O.q 1 rfl<|O.call0 (.g rfl rfl) rfl zC rfl rfl ((light_c hb)) ?_
  rintro _ _ ⟨ok2,hok2,rfl,rfl⟩
  try simp only [zx1,zx2,zx3]
  refine O.op (.g rfl rfl) ((by first|exact .notD rfl|exact .not rfl)) ?_;refine O.q 2 rfl ?_
  first|refine O.caseD 33 rfl (fun h33=>?_) (fun h33=>?_)|refine O.caseB 33 rfl (fun h33=>?_) (fun h33=>?_)
  ·refine O.q 4 rfl<|O.nil<|S.condT rfl<|S.seq<|S.region rfl<|O.q 1 rfl<|O.nil ?_
   exact S.rt results4 rfl hR ⟨rfl,rfl⟩
  ·refine O.q 1 rfl<|O.op (.g rfl rfl) (.lenS rfl underlying9 rfl)<|O.op (.g rfl rfl) (.gtr rfl rfl)<|O.q 1 rfl<|O.nil ?_
   first|refine S.condD rfl (fun h37=>?_) (fun h37=>?_)|refine S.condB rfl (fun h37=>?_) (fun h37=>?_)
   ·refine S.seq<|S.region rfl<|O.q 1 rfl<|O.nil ?_
    exact S.rt results4 rfl hR ⟨rfl,rfl⟩
   ·obtain ⟨hl1,_,hl3⟩:=hok1 (by simpa using h28)
    obtain ⟨ho1,_,ho3⟩:=hok2 (by simpa using h33);have hT:TreeH g.h Fr.emp s []:=⟨Fr.emp_sub _,TreeOk.nil s,⟨by simp,fun _ h=>by cases h⟩,hH,hK⟩;have hsl:∀ y∈l,y.2.1.length≤10000000:=fun y hy=>by have:=(hl3 y hy).2.1;omega
    have hso:∀ y∈other,y.2.1.length≤10000000:=fun y hy=>by have:=(ho3 y hy).2.1;omega
    refine S.skip<|S.seq<|S.region rfl<|O.q 1 rfl<|O.call0 (.p rfl) rfl zC rfl rfl ((Pick_c _ _ (by constructor<;>decide))) ?_;rintro _ _ ⟨rfl,rfl⟩
    try simp only [zx1,zx2,zx3]
    refine O.slot 39 (v' :=.int .i64 (s:Int)) rfl (by rw [hs']) ?_;refine O.q 1 rfl<|O.nil<|S.seq<|S.region rfl<|O.q 1 rfl<|O.call0 (.p rfl) rfl zC rfl rfl ((new_yes hs4)) ?_;rintro _ _ ⟨b41,rfl,rfl⟩
    try simp only [zx1,zx2,zx3]
    refine O.q 1 rfl<|O.call0 (.p rfl) rfl zC rfl rfl ((new_yes hs4)) ?_;rintro _ _ ⟨b43,rfl,rfl⟩
    try simp only [zx1,zx2,zx3]
    refine O.q 1 rfl<|O.call0 (.p rfl) rfl zC rfl rfl ((new_yes hs4)) ?_;rintro _ _ ⟨b45,rfl,rfl⟩
    try simp only [zx1,zx2,zx3]
    refine O.q 3 rfl<|O.nil (S.seq (S.seq ?_))
    by_cases hE:putE s l=0
    ·have hA0:TreeOk s (putsL [] l):=TreeOk.puts (TreeOk.nil s) (putE_0.1 hE)
     have hAs:=alike_bl (L:=[]) (l:=l) (N:=0) zI zB (fun _ h=>by cases h) hsl zE;have hAl:=putsL_len l [];have hC0:TreeOk s (if putE s other=0 then putsL [] other else []):=by
      split
      ·rename_i q;exact TreeOk.puts (TreeOk.nil s) (putE_0.1 q)
      ·exact TreeOk.nil s
     have hCs:(if putE s other=0 then putsL [] other else []).length≤20∧∀ y∈(if putE s other=0 then putsL [] other else []),y.2.1.length≤10000000:=by
      have hcl:=putsL_len other []
      split
      ·exact ⟨by rw [List.length_nil] at hcl;omega,putsL_small other [] (fun _ h=>by cases h) hso⟩
      ·exact ⟨by simp,fun _ h=>by cases h⟩
     refine S.region rfl<|O.q 2 rfl<|O.callS (.p rfl) rfl zC rfl rfl zD (tPut_c (b:=b41) hT ha zK hsl) ?_;rintro _ _ ⟨rfl,rfl⟩
     try simp only [zx1,zx2,zx3]
     refine O.op (.p rfl) (.neq rfl rfl)<|O.sF 49 rfl (by rw [hE];rfl) ?_;refine O.nil<|S.condF rfl<|S.skip (S.seq ?_);rw [if_pos hE];rw [List.length_nil,Nat.zero_add] at hAl;obtain ⟨La,hLa⟩:∃ La,La=putsL [] l:=⟨_,rfl⟩;rw [← hLa] at hA0 hAs hAl ⊢;have hTA:TreeH g.h Fr.emp s La:=⟨Fr.emp_sub _,hA0,hAs,hH,hK⟩;refine S.region rfl<|O.q 2 rfl<|O.callS (.p rfl) rfl zC rfl rfl zD (tPut_c (b:=b45) hT hb zK hso) ?_;rintro _ _ ⟨rfl,rfl⟩
     try simp only [zx1,zx2,zx3]
     refine O.nil (S.seq ?_);generalize (if putE s other=0 then putsL [] other else [])=Lc at hC0 hCs ⊢;have hTC:TreeH g.h Fr.emp s Lc:=⟨Fr.emp_sub _,hC0,⟨by omega,hCs.2⟩,hH,hK⟩;refine S.region rfl<|O.q 1 rfl<|O.callS (.p rfl) rfl zC rfl rfl zD (tTop_c (b:=b45) hTC hs4) ?_;rintro _ _ ⟨a58,c58,rfl,rfl⟩
     try simp only [zx1,zx2,zx3]
     refine O.nil<|S.seq<|S.region rfl<|O.q 2 rfl<|O.callS (.p rfl) rfl zC rfl rfl zD (tSum_c (b:=b45) (p:=p) hTC hp) ?_;rintro _ _ ⟨a61,c61,rfl,rfl⟩
     try simp only [zx1,zx2,zx3]
     refine O.nil<|S.seq<|S.region rfl<|O.q 1 rfl<|O.callB (.p rfl) rfl zC rfl rfl (bs:=[TreeX tt Fr.emp b45 s Lc]) zG (fun m hm hd=>tLeaves_c (TreeX.lent hTC.hd hd hm) hC0 hTC.small) ?_;rintro _ _ ⟨a63,c63,rfl,rfl⟩
     try simp only [zx1,zx2,zx3]
     refine O.q 1 rfl<|O.nil<|S.seq<|S.seq<|S.frzG (T:=LeafRp) rfl zD fun g hs hm hG=>?_;replace hg:=Fr.sub_trans hg hs;replace hR:=melted hR hm
     try replace ha:=ha.mono hs
     try replace hb:=hb.mono hs
     try replace hH:=hH.mono hs
     try replace hK:=hK.mono hs
     try replace hT:=hT.mono hs
     try replace hTA:=hTA.mono hs
     try replace hTC:=hTC.mono hs
     clear hs hm;refine S.region rfl<|O.q 1 rfl<|O.nil (S.block ?_);have e0:putsL Lc (goneL (Lc.take 0))=Lc:=by rw [show goneL (Lc.take 0)=[] from rfl,puts_0]
     refine S.pk (ζ:=[TreeX tt Fr.emp b41 s La,TreeX tt Fr.emp b43 s [],TreeX tt Fr.emp b45 s Lc]) zP ?_;refine S.imp (η' :=[TreeX tt Fr.emp b41 s La,TreeX tt Fr.emp b43 s [],TreeX tt Fr.emp b45 s (putsL Lc (goneL (Lc.take 0)))]) (fun m h=>by rw [e0];exact h) ?_;refine S.loopK (ι:=Nat) (fun i=>i≤Lc.length) (fun i=>[(14,.int .i64 (i:Int))]) [(3,_),(10,_),(11,_),(12,_),(13,_)] (fun i=>[TreeX tt Fr.emp b41 s La,TreeX tt Fr.emp b43 s [],TreeX tt Fr.emp b45 s (putsL Lc (goneL (Lc.take i)))]) (fun i=>Lc.length - i) (0) zI (.cons rfl (.nil)) (.cons rfl (.cons rfl (.cons rfl (.cons rfl (.cons rfl (.nil)))))) rfl fun i hx ih=>?_;have hm1:=meltRefl (g:=g);refine S.seq<|S.seq<|S.region rfl<|O.q 2 rfl<|O.op (.p rfl) (.len rfl underlying25 rfl)<|O.op (.p rfl) (.lss rfl rfl)<|O.nil ?_
     first|refine S.condD rfl (fun h67=>?_) (fun h67=>?_)|refine S.condB rfl (fun h67=>?_) (fun h67=>?_)
     ·have hi:i<Lc.length:=by omega
      have hm:=List.getElem_mem hi;have hk:=(hC0.1 _ hm).1.1.2;have htl:(goneL (Lc.take i)).length≤20:=by rw [goneL_len];simp;omega
      have hbl:=alike_bl (L:=Lc) (l:=goneL (Lc.take i)) (N:=20) hCs.1 zB hCs.2 (fun y hy=>by obtain ⟨q,_,rfl⟩:=List.mem_map.1 hy;simp) zE;have hpl:=putsL_len (goneL (Lc.take i)) Lc;have hTi:TreeH g.h Fr.emp s (putsL Lc (goneL (Lc.take i))):=⟨Fr.emp_sub _,goneL_ok hC0,hbl,hH,hK⟩;have hgo:=gone_ok hC0 hm;refine S.skip<|S.seq<|S.block<|S.region rfl<|O.q 3 rfl<|O.ia (.p rfl) underlying25 size31 rfl rfl (show _=(((i):Nat):Int) by omega) (hG) (h:=fun p73 cs73 hp73 hr73=>?_);obtain ⟨l1,m1,rfl,l2,l3⟩:=LeafRp.sh hr73;refine O.op (.p rfl) (.fieldAddr fld31x0 rfl)<|O.op (.p rfl) (.loadAt flat9 rfl hp73 rfl) ?_;refine O.op (.p rfl) (.build (cs:=[_,_]) underlying31 rfl rfl rfl rfl rfl)<|O.opE (.p rfl) (.litP (T:=Rp.cells 2) (ys:=[[.string (str Lc[i].1),.slice none 0 0]]) underlying25 elem31 zE rfl rfl ⟨⟨rfl,rfl,by first|(simp;done)|(intro v hv;simp [Value.cells] at hv;rcases hv with rfl|rfl<;>rfl)|(refine List.forall_mem_cons.2 ⟨rfl,?_⟩;repeat (first|exact (fun _ h=>absurd h List.not_mem_nil)|refine List.forall_mem_cons.2 ⟨rfl,?_⟩))⟩,trivial⟩ zE) ?_;rintro _ _ ⟨a77,c77,rfl,rfl⟩;refine O.frzA zD fun g hs hm ha77=>?_;replace hg:=Fr.sub_trans hg hs;replace hR:=melted hR hm
      try replace ha:=ha.mono hs
      try replace hb:=hb.mono hs
      try replace hH:=hH.mono hs
      try replace hK:=hK.mono hs
      try replace hT:=hT.mono hs
      try replace hTA:=hTA.mono hs
      try replace hTC:=hTC.mono hs
      try replace hG:=hG.mono hs
      try replace hTi:=hTi.mono hs
      try replace hp73:=hp73.mono hs
      replace hm1:=meltTrans hm1 hm;clear hs hm;refine O.callS (.p rfl) rfl zC rfl rfl zD (tPut_c (b:=b45) hTi (one_leaf zB Arr.nil ha77) zK (fun y hy=>by rw [List.mem_singleton.1 hy];simp)) ?_;rintro _ _ ⟨rfl,rfl⟩
      try simp only [zx1,zx2,zx3]
      refine O.nil<|S.inBlock<|S.region rfl<|O.q 1 rfl<|O.op (.p rfl) (.add rfl rfl (IntWalk.i64_in _ zB))<|O.q 1 rfl<|O.nil ?_;rw [if_pos hgo,puts_one,goneL_take hi];exact S.melt hm1 (S.pw (ih (i+1) zB zB))
     ·clear ih
      have hi:i=Lc.length:=by omega
      subst hi;rw [List.take_length,puts_gone hC0.2];refine S.exit rfl<|S.seq<|S.region rfl<|O.q 1 rfl<|O.callB (.p rfl) rfl zC rfl rfl (bs:=[TreeX tt Fr.emp b41 s La]) zG (fun m hm hd=>tLeaves_c (TreeX.lent hTA.hd hd hm) hA0 hTA.small) ?_;rintro _ _ ⟨a80,c80,rfl,rfl⟩
      try simp only [zx1,zx2,zx3]
      refine O.q 1 rfl<|O.nil<|S.seq<|S.seq<|S.frzG (T:=LeafRp) rfl zD fun g hs hm hV=>?_;replace hg:=Fr.sub_trans hg hs;replace hR:=melted hR hm
      try replace ha:=ha.mono hs
      try replace hb:=hb.mono hs
      try replace hH:=hH.mono hs
      try replace hK:=hK.mono hs
      try replace hT:=hT.mono hs
      try replace hTA:=hTA.mono hs
      try replace hTC:=hTC.mono hs
      try replace hG:=hG.mono hs
      replace hm1:=meltTrans hm1 hm;clear hs hm;refine S.region rfl<|O.q 1 rfl<|O.op (.p rfl) (.len rfl underlying25 rfl)<|O.op (.p rfl) (.sub rfl rfl (IntWalk.i64_in _ zB))<|O.q 1 rfl<|O.nil<|S.block<|S.pk (ζ:=[TreeX tt Fr.emp b41 s La,TreeX tt Fr.emp b43 s [],TreeX tt Fr.emp b45 s []]) zP ?_;refine S.imp (η' :=[TreeX tt Fr.emp b41 s La,TreeX tt Fr.emp b43 s (putsL [] (La.reverse.take 0)),TreeX tt Fr.emp b45 s (putsL [] (La.take 0))]) (fun m h=>by rw [List.take_zero,List.take_zero,puts_0];exact h) ?_;refine S.slot 16 (v' :=.int .i64 ((La.length:Int) - 1 - ((0:Nat):Int))) rfl zI ?_;refine S.loopK (ι:=Nat) (fun j=>j≤La.length) (fun j=>[(16,.int .i64 ((La.length:Int) - 1 - (j:Int)))]) [(3,_),(10,_),(11,_),(12,_),(15,_)] (fun j=>[TreeX tt Fr.emp b41 s La,TreeX tt Fr.emp b43 s (putsL [] (La.reverse.take j)),TreeX tt Fr.emp b45 s (putsL [] (La.take j))]) (fun j=>La.length - j) (0) zI (.cons rfl (.nil)) (.cons rfl (.cons rfl (.cons rfl (.cons rfl (.cons rfl (.nil)))))) rfl fun j hx ih=>?_;have hm2:=meltRefl (g:=g);refine S.seq<|S.seq<|S.region rfl<|O.q 1 rfl<|O.op (.p rfl) (.geq rfl rfl)<|O.nil ?_
      first|refine S.condD rfl (fun h85=>?_) (fun h85=>?_)|refine S.condB rfl (fun h85=>?_) (fun h85=>?_)
      ·have hj:j<La.length:=by omega
       have hj2:La.length - 1 - j<La.length:=by omega
       have hjr:j<La.reverse.length:=by simp;omega
       have hrv:La.reverse[j]=La[La.length - 1 - j]:=by rw [List.getElem_reverse]
       have m1:=List.getElem_mem hj2;have m2:=List.getElem_mem hj;have hE1:=putE_mem hA0 m1;have hE2:=putE_mem hA0 m2;have hk1:=(hA0.1 _ m1).1.1.2;have hk2:=(hA0.1 _ m2).1.1.2;have hBo:TreeOk s (putsL [] (La.reverse.take j)):=TreeOk.puts (TreeOk.nil s) fun x hx=>hA0.mem_put (List.mem_reverse.1 (List.mem_of_mem_take hx));have hCo:TreeOk s (putsL [] (La.take j)):=TreeOk.puts (TreeOk.nil s) fun x hx=>hA0.mem_put (List.mem_of_mem_take hx);have hBs:=alike_bl (L:=[]) (l:=La.reverse.take j) (N:=0) zI zK (fun _ h=>by cases h) (fun y hy=>hAs.2 y (List.mem_reverse.1 (List.mem_of_mem_take hy))) zE;have hCs2:=alike_bl (L:=[]) (l:=La.take j) (N:=0) zI zK (fun _ h=>by cases h) (fun y hy=>hAs.2 y (List.mem_of_mem_take hy)) zE;have hBl:=putsL_len (La.reverse.take j) [];have hCl:=putsL_len (La.take j) [];have hbl1:(La.reverse.take j).length≤20:=by simp;omega
       have hcl1:(La.take j).length≤20:=by simp;omega
       have hB20:(putsL [] (La.reverse.take j)).length≤20:=by rw [List.length_nil] at hBl;omega
       have hC20:(putsL [] (La.take j)).length≤20:=by rw [List.length_nil] at hCl;omega
       have hTB:TreeH g.h Fr.emp s (putsL [] (La.reverse.take j)):=⟨Fr.emp_sub _,hBo,hBs,hH,hK⟩;have hTC2:TreeH g.h Fr.emp s (putsL [] (La.take j)):=⟨Fr.emp_sub _,hCo,hCs2,hH,hK⟩;have hTB2:TreeH g.h Fr.emp s (putsL [] (La.reverse.take (j+1))):=⟨Fr.emp_sub _,TreeOk.puts (TreeOk.nil s) fun x hx=>hA0.mem_put (List.mem_reverse.1 (List.mem_of_mem_take hx)),alike_bl (L:=[]) (l:=La.reverse.take (j+1)) (N:=0) zI zK (fun _ h=>by cases h) (fun y hy=>hAs.2 y (List.mem_reverse.1 (List.mem_of_mem_take hy))) zE,hH,hK⟩;have hs1:=puts_take (L:=[]) hjr;have hs2:=puts_take (L:=[]) hj;rw [hrv] at hs1;refine S.skip<|S.seq<|S.block<|S.seq<|S.seq<|S.region rfl<|O.q 3 rfl<|O.ia (.p rfl) underlying25 size31 rfl rfl (show _=(((La.length - 1 - j):Nat):Int) by omega) (by first|assumption|exact Arr.mono hg zJ|exact Arr.left zJ|exact Arr.left (Arr.mono hg zJ)) (h:=fun p91 cs91 hp91 hr91=>?_);obtain ⟨la1_91,lc1_91,rfl,ho0_91,ha1_91⟩:=LeafRp.sh hr91;refine O.op (.p rfl) (.loadAgg isAgg31 zC rfl hp91) ?_
       refine O.opE (.p rfl) (.litP (T:=Rp.cells 2) (ys:=[[.string (str La[La.length - 1 - j].1),.slice la1_91 La[La.length - 1 - j].2.1.length lc1_91]]) underlying25 elem31 zE rfl rfl ⟨⟨rfl,rfl,by first|(simp;done)|(intro v hv;simp [Value.cells] at hv;rcases hv with rfl|rfl<;>rfl)|(refine List.forall_mem_cons.2 ⟨rfl,?_⟩;repeat (first|exact (fun _ h=>absurd h List.not_mem_nil)|refine List.forall_mem_cons.2 ⟨rfl,?_⟩))⟩,trivial⟩ zE) ?_;rintro _ _ ⟨a93,c93,rfl,rfl⟩;refine O.frzA zD fun g hs hm ha93=>?_;replace hg:=Fr.sub_trans hg hs;replace hR:=melted hR hm
       try replace ha:=ha.mono hs
       try replace hb:=hb.mono hs
       try replace hH:=hH.mono hs
       try replace hK:=hK.mono hs
       try replace hT:=hT.mono hs
       try replace hTA:=hTA.mono hs
       try replace hTC:=hTC.mono hs
       try replace hG:=hG.mono hs
       try replace hV:=hV.mono hs
       try replace hTB:=hTB.mono hs
       try replace hTC2:=hTC2.mono hs
       try replace hTB2:=hTB2.mono hs
       try replace hp91:=hp91.mono hs
       try replace ha1_91:=ha1_91.mono hs
       try replace hr91:=hr91.mono hs
       replace hm1:=meltTrans hm1 hm;replace hm2:=meltTrans hm2 hm;clear hs hm;refine O.callS (.p rfl) rfl zC rfl rfl zD (tPut_c (b:=b43) hTB (one_leaf zB ha1_91 ha93) (by rw [List.length_singleton];omega) (fun y hy=>by rw [List.mem_singleton.1 hy];exact hAs.2 _ m1)) ?_;rintro _ _ ⟨rfl,rfl⟩
       try simp only [zx1,zx2,zx3]
       rw [show ((La[La.length - 1 - j].1,La[La.length - 1 - j].2.1,()):LeafT)=La[La.length - 1 - j] from rfl,hE1,if_pos rfl,puts_one,hs1];refine O.op (.p rfl) (.neq rfl rfl)<|O.sF 95 rfl zF ?_;refine O.q 4 rfl<|O.op (.g rfl rfl) (.len rfl underlying25 rfl)<|O.op (.g rfl rfl) (.sub rfl rfl (IntWalk.i64_in _ zB))<|O.q 1 rfl<|O.op (.g rfl rfl) (.sub rfl rfl (IntWalk.i64_in _ zB))<|O.ia (.g rfl rfl) underlying25 size31 rfl rfl (show _=(((j):Nat):Int) by omega) (by first|assumption|exact Arr.mono hg zJ|exact Arr.left zJ|exact Arr.left (Arr.mono hg zJ)) (h:=fun p104 cs104 hp104 hr104=>?_);obtain ⟨la1_104,lc1_104,rfl,ho0_104,ha1_104⟩:=LeafRp.sh hr104;refine O.op (.g rfl rfl) (.loadAgg isAgg31 zC rfl hp104) ?_;refine O.opE (.g rfl rfl) (.litP (T:=Rp.cells 2) (ys:=[[.string (str La[j].1),.slice la1_104 La[j].2.1.length lc1_104]]) underlying25 elem31 zE rfl rfl ⟨⟨rfl,rfl,by first|(simp;done)|(intro v hv;simp [Value.cells] at hv;rcases hv with rfl|rfl<;>rfl)|(refine List.forall_mem_cons.2 ⟨rfl,?_⟩;repeat (first|exact (fun _ h=>absurd h List.not_mem_nil)|refine List.forall_mem_cons.2 ⟨rfl,?_⟩))⟩,trivial⟩ zE) ?_;rintro _ _ ⟨a106,c106,rfl,rfl⟩;refine O.frzA zD fun g hs hm ha106=>?_;replace hg:=Fr.sub_trans hg hs;replace hR:=melted hR hm
       try replace ha:=ha.mono hs
       try replace hb:=hb.mono hs
       try replace hH:=hH.mono hs
       try replace hK:=hK.mono hs
       try replace hT:=hT.mono hs
       try replace hTA:=hTA.mono hs
       try replace hTC:=hTC.mono hs
       try replace hG:=hG.mono hs
       try replace hV:=hV.mono hs
       try replace hTB:=hTB.mono hs
       try replace hTC2:=hTC2.mono hs
       try replace hTB2:=hTB2.mono hs
       try replace hp91:=hp91.mono hs
       try replace ha1_91:=ha1_91.mono hs
       try replace hr91:=hr91.mono hs
       try replace ha93:=ha93.mono hs
       try replace hp104:=hp104.mono hs
       try replace ha1_104:=ha1_104.mono hs
       try replace hr104:=hr104.mono hs
       replace hm1:=meltTrans hm1 hm;replace hm2:=meltTrans hm2 hm;clear hs hm;refine O.callS (.g rfl rfl) rfl zC rfl rfl zD (tPut_c (b:=b45) hTC2 (one_leaf zB ha1_104 ha106) (by rw [List.length_singleton];omega) (fun y hy=>by rw [List.mem_singleton.1 hy];exact hAs.2 _ m2)) ?_;rintro _ _ ⟨rfl,rfl⟩
       try simp only [zx1,zx2,zx3]
       rw [show ((La[j].1,La[j].2.1,()):LeafT)=La[j] from rfl,hE2,if_pos rfl,puts_one,hs2];refine O.op (.g rfl rfl) (.neq rfl rfl)<|O.sF 108 rfl zF ?_;refine O.q 1 rfl<|O.nil<|S.condF rfl<|S.skip<|S.region rfl<|O.q 1 rfl<|O.callS (.p rfl) rfl zC rfl rfl zD (tTop_c (b:=b43) hTB2 hs4) ?_;rintro _ _ ⟨a111,c111,rfl,rfl⟩
       try simp only [zx1,zx2,zx3]
       refine O.nil<|S.inBlock<|S.region rfl<|O.q 1 rfl<|O.op (.p rfl) (.sub rfl rfl (IntWalk.i64_in _ zB))<|O.slot 87 (v' :=.int .i64 ((La.length:Int) - 1 - ((j+1:Nat):Int))) rfl (by exact congrArg (Value.int .i64) zB) ?_;refine O.q 1 rfl<|O.nil ?_;exact S.melt hm2 (S.pw (ih (j+1) zB zB))
      ·clear ih
       have hj:j=La.length:=by omega
       subst hj;have er:La.reverse.take La.length=La.reverse:=List.take_of_length_le zI;rw [List.take_length,er,puts_own hA0 hA0.2.apart (fun y=>Iff.rfl),puts_own hA0 hA0.2.apart.rev (fun y=>List.mem_reverse)];refine S.exit rfl<|S.seq<|S.region rfl<|O.q 2 rfl<|O.callS (.p rfl) rfl zC rfl rfl zD (tNode_c (b:=b41) (p:=p) hTA hp) ?_;rintro _ _ ⟨q1,d1,q2,d2,q3,d3,rfl,rfl⟩
       try simp only [zx1,zx2,zx3]
       refine O.q 3 rfl<|O.opE (.p rfl) (.alloc (cs:=[.int .u8 0,.slice none 0 0,.slice none 0 0,.slice none 0 0]) zeroValue27 rfl) ?_;rintro _ _ ⟨b17,rfl,rfl⟩;refine O.opU rfl (.storeObj zC rfl rfl rfl rfl zD zM) ?_;refine O.q 1 rfl<|O.nil<|S.seq<|S.region rfl<|O.q 2 rfl<|O.callS (.p rfl) rfl zC rfl rfl zD (tNode_c (b:=b43) (p:=p) hTA hp) ?_;rintro _ _ ⟨q4,d4,q5,d5,q6,d6,rfl,rfl⟩
       try simp only [zx1,zx2,zx3]
       refine O.q 3 rfl<|O.opE (.p rfl) (.alloc (cs:=[.int .u8 0,.slice none 0 0,.slice none 0 0,.slice none 0 0]) zeroValue27 rfl) ?_;rintro _ _ ⟨b19,rfl,rfl⟩;refine O.opU rfl (.storeObj zC rfl rfl rfl rfl zD zM) ?_;refine O.q 1 rfl<|O.nil<|S.seq<|S.region rfl<|O.q 2 rfl<|O.callS (.p rfl) rfl zC rfl rfl zD (tNode_c (b:=b45) (p:=p) hTA hp) ?_;rintro _ _ ⟨q7,d7,q8,d8,q9,d9,rfl,rfl⟩
       try simp only [zx1,zx2,zx3]
       refine O.q 3 rfl<|O.opE (.p rfl) (.alloc (cs:=[.int .u8 0,.slice none 0 0,.slice none 0 0,.slice none 0 0]) zeroValue27 rfl) ?_;rintro _ _ ⟨b21,rfl,rfl⟩;refine O.opU rfl (.storeObj zC rfl rfl rfl rfl zD zM) ?_;refine O.q 1 rfl<|O.nil<|S.seq<|S.seq<|S.frz (A:=OwnP Rp.u8 5 (.slice q1 (nodeT La p).2.1.length d1) (nodeT La p).2.1) zD fun g hs hm ⟨_,x',s'⟩=>?_;have f1:=(fun s x=>x.arr.mono s) s' x';clear x' s';replace hg:=Fr.sub_trans hg hs;replace hR:=melted hR hm
       try replace ha:=ha.mono hs
       try replace hb:=hb.mono hs
       try replace hH:=hH.mono hs
       try replace hK:=hK.mono hs
       try replace hT:=hT.mono hs
       try replace hTA:=hTA.mono hs
       try replace hTC:=hTC.mono hs
       try replace hG:=hG.mono hs
       try replace hV:=hV.mono hs
       replace hm1:=meltTrans hm1 hm;replace hm2:=meltTrans hm2 hm;clear hs hm;refine S.frz (A:=OwnP Rp.u8 5 (.slice q2 (nodeT La p).2.2.1.length d2) (nodeT La p).2.2.1) zD fun g hs hm ⟨_,x',s'⟩=>?_;have f2:=(fun s x=>x.arr.mono s) s' x';clear x' s';replace hg:=Fr.sub_trans hg hs;replace hR:=melted hR hm
       try replace ha:=ha.mono hs
       try replace hb:=hb.mono hs
       try replace hH:=hH.mono hs
       try replace hK:=hK.mono hs
       try replace hT:=hT.mono hs
       try replace hTA:=hTA.mono hs
       try replace hTC:=hTC.mono hs
       try replace hG:=hG.mono hs
       try replace hV:=hV.mono hs
       try replace f1:=f1.mono hs
       replace hm1:=meltTrans hm1 hm;replace hm2:=meltTrans hm2 hm;clear hs hm;refine S.frz (A:=ListP (LeafG tys) 31 (.slice q3 (nodeT La p).2.2.2.1.length d3) (nodeT La p).2.2.2.1) zD fun g hs hm ⟨_,x',s'⟩=>?_;have f3:=(fun s x=>(ListP.arr x).mono s) s' x';clear x' s';replace hg:=Fr.sub_trans hg hs;replace hR:=melted hR hm
       try replace ha:=ha.mono hs
       try replace hb:=hb.mono hs
       try replace hH:=hH.mono hs
       try replace hK:=hK.mono hs
       try replace hT:=hT.mono hs
       try replace hTA:=hTA.mono hs
       try replace hTC:=hTC.mono hs
       try replace hG:=hG.mono hs
       try replace hV:=hV.mono hs
       try replace f1:=f1.mono hs
       try replace f2:=f2.mono hs
       replace hm1:=meltTrans hm1 hm;replace hm2:=meltTrans hm2 hm;clear hs hm;refine S.frz (A:=OwnP Rp.u8 5 (.slice q4 (nodeT La p).2.1.length d4) (nodeT La p).2.1) zD fun g hs hm ⟨_,x',s'⟩=>?_;have f4:=(fun s x=>x.arr.mono s) s' x';clear x' s';replace hg:=Fr.sub_trans hg hs;replace hR:=melted hR hm
       try replace ha:=ha.mono hs
       try replace hb:=hb.mono hs
       try replace hH:=hH.mono hs
       try replace hK:=hK.mono hs
       try replace hT:=hT.mono hs
       try replace hTA:=hTA.mono hs
       try replace hTC:=hTC.mono hs
       try replace hG:=hG.mono hs
       try replace hV:=hV.mono hs
       try replace f1:=f1.mono hs
       try replace f2:=f2.mono hs
       try replace f3:=f3.mono hs
       replace hm1:=meltTrans hm1 hm;replace hm2:=meltTrans hm2 hm;clear hs hm;refine S.frz (A:=OwnP Rp.u8 5 (.slice q5 (nodeT La p).2.2.1.length d5) (nodeT La p).2.2.1) zD fun g hs hm ⟨_,x',s'⟩=>?_;have f5:=(fun s x=>x.arr.mono s) s' x';clear x' s';replace hg:=Fr.sub_trans hg hs;replace hR:=melted hR hm
       try replace ha:=ha.mono hs
       try replace hb:=hb.mono hs
       try replace hH:=hH.mono hs
       try replace hK:=hK.mono hs
       try replace hT:=hT.mono hs
       try replace hTA:=hTA.mono hs
       try replace hTC:=hTC.mono hs
       try replace hG:=hG.mono hs
       try replace hV:=hV.mono hs
       try replace f1:=f1.mono hs
       try replace f2:=f2.mono hs
       try replace f3:=f3.mono hs
       try replace f4:=f4.mono hs
       replace hm1:=meltTrans hm1 hm;replace hm2:=meltTrans hm2 hm;clear hs hm;refine S.frz (A:=ListP (LeafG tys) 31 (.slice q6 (nodeT La p).2.2.2.1.length d6) (nodeT La p).2.2.2.1) zD fun g hs hm ⟨_,x',s'⟩=>?_;have f6:=(fun s x=>(ListP.arr x).mono s) s' x';clear x' s';replace hg:=Fr.sub_trans hg hs;replace hR:=melted hR hm
       try replace ha:=ha.mono hs
       try replace hb:=hb.mono hs
       try replace hH:=hH.mono hs
       try replace hK:=hK.mono hs
       try replace hT:=hT.mono hs
       try replace hTA:=hTA.mono hs
       try replace hTC:=hTC.mono hs
       try replace hG:=hG.mono hs
       try replace hV:=hV.mono hs
       try replace f1:=f1.mono hs
       try replace f2:=f2.mono hs
       try replace f3:=f3.mono hs
       try replace f4:=f4.mono hs
       try replace f5:=f5.mono hs
       replace hm1:=meltTrans hm1 hm;replace hm2:=meltTrans hm2 hm;clear hs hm;refine S.frz (A:=OwnP Rp.u8 5 (.slice q7 (nodeT La p).2.1.length d7) (nodeT La p).2.1) zD fun g hs hm ⟨_,x',s'⟩=>?_;have f7:=(fun s x=>x.arr.mono s) s' x';clear x' s';replace hg:=Fr.sub_trans hg hs;replace hR:=melted hR hm
       try replace ha:=ha.mono hs
       try replace hb:=hb.mono hs
       try replace hH:=hH.mono hs
       try replace hK:=hK.mono hs
       try replace hT:=hT.mono hs
       try replace hTA:=hTA.mono hs
       try replace hTC:=hTC.mono hs
       try replace hG:=hG.mono hs
       try replace hV:=hV.mono hs
       try replace f1:=f1.mono hs
       try replace f2:=f2.mono hs
       try replace f3:=f3.mono hs
       try replace f4:=f4.mono hs
       try replace f5:=f5.mono hs
       try replace f6:=f6.mono hs
       replace hm1:=meltTrans hm1 hm;replace hm2:=meltTrans hm2 hm;clear hs hm;refine S.frz (A:=OwnP Rp.u8 5 (.slice q8 (nodeT La p).2.2.1.length d8) (nodeT La p).2.2.1) zD fun g hs hm ⟨_,x',s'⟩=>?_;have f8:=(fun s x=>x.arr.mono s) s' x';clear x' s';replace hg:=Fr.sub_trans hg hs;replace hR:=melted hR hm
       try replace ha:=ha.mono hs
       try replace hb:=hb.mono hs
       try replace hH:=hH.mono hs
       try replace hK:=hK.mono hs
       try replace hT:=hT.mono hs
       try replace hTA:=hTA.mono hs
       try replace hTC:=hTC.mono hs
       try replace hG:=hG.mono hs
       try replace hV:=hV.mono hs
       try replace f1:=f1.mono hs
       try replace f2:=f2.mono hs
       try replace f3:=f3.mono hs
       try replace f4:=f4.mono hs
       try replace f5:=f5.mono hs
       try replace f6:=f6.mono hs
       try replace f7:=f7.mono hs
       replace hm1:=meltTrans hm1 hm;replace hm2:=meltTrans hm2 hm;clear hs hm;refine S.frz (A:=ListP (LeafG tys) 31 (.slice q9 (nodeT La p).2.2.2.1.length d9) (nodeT La p).2.2.2.1) zD fun g hs hm ⟨_,x',s'⟩=>?_;have f9:=(fun s x=>(ListP.arr x).mono s) s' x';clear x' s';replace hg:=Fr.sub_trans hg hs;replace hR:=melted hR hm
       try replace ha:=ha.mono hs
       try replace hb:=hb.mono hs
       try replace hH:=hH.mono hs
       try replace hK:=hK.mono hs
       try replace hT:=hT.mono hs
       try replace hTA:=hTA.mono hs
       try replace hTC:=hTC.mono hs
       try replace hG:=hG.mono hs
       try replace hV:=hV.mono hs
       try replace f1:=f1.mono hs
       try replace f2:=f2.mono hs
       try replace f3:=f3.mono hs
       try replace f4:=f4.mono hs
       try replace f5:=f5.mono hs
       try replace f6:=f6.mono hs
       try replace f7:=f7.mono hs
       try replace f8:=f8.mono hs
       replace hm1:=meltTrans hm1 hm;replace hm2:=meltTrans hm2 hm;clear hs hm;refine S.region rfl<|O.q 2 rfl<|O.op (.p rfl) (.neq rfl rfl)<|O.sF 132 rfl (by exact decide_eq_false (fun q=>q rfl)) ?_;refine O.q 3 rfl<|O.op (.g rfl rfl) (.neq rfl rfl)<|O.sF 136 rfl (by exact decide_eq_false (fun q=>q rfl)) ?_;refine O.q 2 rfl<|O.op (.g rfl rfl) (.loA (news:=[_,_,_,_]) isAgg27) ?_;refine O.op (.g rfl rfl) (.loA (news:=[_,_,_,_]) isAgg27) ?_;refine O.call0 (.g rfl rfl) rfl zC rfl rfl ((sameNode_c (x:=nodeT La p) (y:=nodeT La p) (NodeRp.mk f1 f2 f3) (NodeRp.mk f4 f5 f6))) ?_;rintro _ _ ⟨rfl,rfl⟩
       try simp only [zx1,zx2,zx3]
       refine O.sT 141 rfl zI ?_;refine O.op (.g rfl rfl) (.not rfl)<|O.q 2 rfl<|O.op (.g rfl rfl) (.loA (news:=[_,_,_,_]) isAgg27) ?_;refine O.op (.g rfl rfl) (.loA (news:=[_,_,_,_]) isAgg27) ?_;refine O.call0 (.g rfl rfl) rfl zC rfl rfl ((sameNode_c (x:=nodeT La p) (y:=nodeT La p) (NodeRp.mk f1 f2 f3) (NodeRp.mk f7 f8 f9))) ?_;rintro _ _ ⟨rfl,rfl⟩
       try simp only [zx1,zx2,zx3]
       refine O.sT 147 rfl zI ?_;refine O.op (.g rfl rfl) (.not rfl)<|O.q 1 rfl<|O.nil<|S.condF rfl<|S.skip<|S.seq<|S.region rfl<|O.q 1 rfl<|O.callS (.p rfl) rfl zC rfl rfl zD (tTop_c (b:=b41) hTA hs4) ?_;rintro _ _ ⟨a151,c151,rfl,rfl⟩
       try simp only [zx1,zx2,zx3]
       refine O.frzA zD fun g hs hm ha151=>?_;replace hg:=Fr.sub_trans hg hs;replace hR:=melted hR hm
       try replace ha:=ha.mono hs
       try replace hb:=hb.mono hs
       try replace hH:=hH.mono hs
       try replace hK:=hK.mono hs
       try replace hT:=hT.mono hs
       try replace hTA:=hTA.mono hs
       try replace hTC:=hTC.mono hs
       try replace hG:=hG.mono hs
       try replace hV:=hV.mono hs
       try replace f1:=f1.mono hs
       try replace f2:=f2.mono hs
       try replace f3:=f3.mono hs
       try replace f4:=f4.mono hs
       try replace f5:=f5.mono hs
       try replace f6:=f6.mono hs
       try replace f7:=f7.mono hs
       try replace f8:=f8.mono hs
       try replace f9:=f9.mono hs
       try replace f1:=f1.mono hs
       try replace f2:=f2.mono hs
       try replace f3:=f3.mono hs
       try replace f4:=f4.mono hs
       try replace f5:=f5.mono hs
       try replace f6:=f6.mono hs
       try replace f7:=f7.mono hs
       try replace f8:=f8.mono hs
       try replace f9:=f9.mono hs
       replace hm1:=meltTrans hm1 hm;replace hm2:=meltTrans hm2 hm;clear hs hm;refine O.q 1 rfl<|O.callS (.p rfl) rfl zC rfl rfl zD (tTop_c (b:=b43) hTA hs4) ?_;rintro _ _ ⟨a153,c153,rfl,rfl⟩
       try simp only [zx1,zx2,zx3]
       refine O.frzA zD fun g hs hm ha153=>?_;replace hg:=Fr.sub_trans hg hs;replace hR:=melted hR hm
       try replace ha:=ha.mono hs
       try replace hb:=hb.mono hs
       try replace hH:=hH.mono hs
       try replace hK:=hK.mono hs
       try replace hT:=hT.mono hs
       try replace hTA:=hTA.mono hs
       try replace hTC:=hTC.mono hs
       try replace hG:=hG.mono hs
       try replace hV:=hV.mono hs
       try replace f1:=f1.mono hs
       try replace f2:=f2.mono hs
       try replace f3:=f3.mono hs
       try replace f4:=f4.mono hs
       try replace f5:=f5.mono hs
       try replace f6:=f6.mono hs
       try replace f7:=f7.mono hs
       try replace f8:=f8.mono hs
       try replace f9:=f9.mono hs
       try replace f1:=f1.mono hs
       try replace f2:=f2.mono hs
       try replace f3:=f3.mono hs
       try replace f4:=f4.mono hs
       try replace f5:=f5.mono hs
       try replace f6:=f6.mono hs
       try replace f7:=f7.mono hs
       try replace f8:=f8.mono hs
       try replace f9:=f9.mono hs
       try replace ha151:=ha151.mono hs
       replace hm1:=meltTrans hm1 hm;replace hm2:=meltTrans hm2 hm;clear hs hm;refine O.call0 (.p rfl) rfl zC rfl rfl ((SameBytes_c ha151 ha153)) ?_;rintro _ _ ⟨rfl,rfl⟩
       try simp only [zx1,zx2,zx3]
       refine O.sT 154 rfl zI ?_;refine O.q 2 rfl<|O.callS (.g rfl rfl) rfl zC rfl rfl zD (tTop_c (b:=b41) hTA hs4) ?_;rintro _ _ ⟨a157,c157,rfl,rfl⟩
       try simp only [zx1,zx2,zx3]
       refine O.frzA zD fun g hs hm ha157=>?_;replace hg:=Fr.sub_trans hg hs;replace hR:=melted hR hm
       try replace ha:=ha.mono hs
       try replace hb:=hb.mono hs
       try replace hH:=hH.mono hs
       try replace hK:=hK.mono hs
       try replace hT:=hT.mono hs
       try replace hTA:=hTA.mono hs
       try replace hTC:=hTC.mono hs
       try replace hG:=hG.mono hs
       try replace hV:=hV.mono hs
       try replace f1:=f1.mono hs
       try replace f2:=f2.mono hs
       try replace f3:=f3.mono hs
       try replace f4:=f4.mono hs
       try replace f5:=f5.mono hs
       try replace f6:=f6.mono hs
       try replace f7:=f7.mono hs
       try replace f8:=f8.mono hs
       try replace f9:=f9.mono hs
       try replace f1:=f1.mono hs
       try replace f2:=f2.mono hs
       try replace f3:=f3.mono hs
       try replace f4:=f4.mono hs
       try replace f5:=f5.mono hs
       try replace f6:=f6.mono hs
       try replace f7:=f7.mono hs
       try replace f8:=f8.mono hs
       try replace f9:=f9.mono hs
       try replace ha151:=ha151.mono hs
       try replace ha153:=ha153.mono hs
       replace hm1:=meltTrans hm1 hm;replace hm2:=meltTrans hm2 hm;clear hs hm;refine O.q 1 rfl<|O.callS (.g rfl rfl) rfl zC rfl rfl zD (tTop_c (b:=b45) hTA hs4) ?_;rintro _ _ ⟨a159,c159,rfl,rfl⟩
       try simp only [zx1,zx2,zx3]
       refine O.frzA zD fun g hs hm ha159=>?_;replace hg:=Fr.sub_trans hg hs;replace hR:=melted hR hm
       try replace ha:=ha.mono hs
       try replace hb:=hb.mono hs
       try replace hH:=hH.mono hs
       try replace hK:=hK.mono hs
       try replace hT:=hT.mono hs
       try replace hTA:=hTA.mono hs
       try replace hTC:=hTC.mono hs
       try replace hG:=hG.mono hs
       try replace hV:=hV.mono hs
       try replace f1:=f1.mono hs
       try replace f2:=f2.mono hs
       try replace f3:=f3.mono hs
       try replace f4:=f4.mono hs
       try replace f5:=f5.mono hs
       try replace f6:=f6.mono hs
       try replace f7:=f7.mono hs
       try replace f8:=f8.mono hs
       try replace f9:=f9.mono hs
       try replace f1:=f1.mono hs
       try replace f2:=f2.mono hs
       try replace f3:=f3.mono hs
       try replace f4:=f4.mono hs
       try replace f5:=f5.mono hs
       try replace f6:=f6.mono hs
       try replace f7:=f7.mono hs
       try replace f8:=f8.mono hs
       try replace f9:=f9.mono hs
       try replace ha151:=ha151.mono hs
       try replace ha153:=ha153.mono hs
       try replace ha157:=ha157.mono hs
       replace hm1:=meltTrans hm1 hm;replace hm2:=meltTrans hm2 hm;clear hs hm;refine O.call0 (.g rfl rfl) rfl zC rfl rfl ((SameBytes_c ha157 ha159)) ?_;rintro _ _ ⟨rfl,rfl⟩
       try simp only [zx1,zx2,zx3]
       refine O.sT 160 rfl zI ?_;refine O.q 4 rfl<|O.callS (.g rfl rfl) rfl zC rfl rfl zD (tSum_c (b:=b41) (p:=p) hTA hp) ?_;rintro _ _ ⟨a165,c165,rfl,rfl⟩
       try simp only [zx1,zx2,zx3]
       refine O.frzA zD fun g hs hm ha165=>?_;replace hg:=Fr.sub_trans hg hs;replace hR:=melted hR hm
       try replace ha:=ha.mono hs
       try replace hb:=hb.mono hs
       try replace hH:=hH.mono hs
       try replace hK:=hK.mono hs
       try replace hT:=hT.mono hs
       try replace hTA:=hTA.mono hs
       try replace hTC:=hTC.mono hs
       try replace hG:=hG.mono hs
       try replace hV:=hV.mono hs
       try replace f1:=f1.mono hs
       try replace f2:=f2.mono hs
       try replace f3:=f3.mono hs
       try replace f4:=f4.mono hs
       try replace f5:=f5.mono hs
       try replace f6:=f6.mono hs
       try replace f7:=f7.mono hs
       try replace f8:=f8.mono hs
       try replace f9:=f9.mono hs
       try replace f1:=f1.mono hs
       try replace f2:=f2.mono hs
       try replace f3:=f3.mono hs
       try replace f4:=f4.mono hs
       try replace f5:=f5.mono hs
       try replace f6:=f6.mono hs
       try replace f7:=f7.mono hs
       try replace f8:=f8.mono hs
       try replace f9:=f9.mono hs
       try replace ha151:=ha151.mono hs
       try replace ha153:=ha153.mono hs
       try replace ha157:=ha157.mono hs
       try replace ha159:=ha159.mono hs
       replace hm1:=meltTrans hm1 hm;replace hm2:=meltTrans hm2 hm;clear hs hm;refine O.q 2 rfl<|O.callS (.g rfl rfl) rfl zC rfl rfl zD (tSum_c (b:=b45) (p:=p) hTA hp) ?_;rintro _ _ ⟨a168,c168,rfl,rfl⟩
       try simp only [zx1,zx2,zx3]
       refine O.frzA zD fun g hs hm ha168=>?_;replace hg:=Fr.sub_trans hg hs;replace hR:=melted hR hm
       try replace ha:=ha.mono hs
       try replace hb:=hb.mono hs
       try replace hH:=hH.mono hs
       try replace hK:=hK.mono hs
       try replace hT:=hT.mono hs
       try replace hTA:=hTA.mono hs
       try replace hTC:=hTC.mono hs
       try replace hG:=hG.mono hs
       try replace hV:=hV.mono hs
       try replace f1:=f1.mono hs
       try replace f2:=f2.mono hs
       try replace f3:=f3.mono hs
       try replace f4:=f4.mono hs
       try replace f5:=f5.mono hs
       try replace f6:=f6.mono hs
       try replace f7:=f7.mono hs
       try replace f8:=f8.mono hs
       try replace f9:=f9.mono hs
       try replace f1:=f1.mono hs
       try replace f2:=f2.mono hs
       try replace f3:=f3.mono hs
       try replace f4:=f4.mono hs
       try replace f5:=f5.mono hs
       try replace f6:=f6.mono hs
       try replace f7:=f7.mono hs
       try replace f8:=f8.mono hs
       try replace f9:=f9.mono hs
       try replace ha151:=ha151.mono hs
       try replace ha153:=ha153.mono hs
       try replace ha157:=ha157.mono hs
       try replace ha159:=ha159.mono hs
       try replace ha165:=ha165.mono hs
       replace hm1:=meltTrans hm1 hm;replace hm2:=meltTrans hm2 hm;clear hs hm;refine O.call0 (.g rfl rfl) rfl zC rfl rfl ((SameBytes_c ha165 ha168)) ?_;rintro _ _ ⟨rfl,rfl⟩
       try simp only [zx1,zx2,zx3]
       refine O.sT 169 rfl zI ?_;refine O.q 4 rfl<|O.callB (.g rfl rfl) rfl zC rfl rfl (bs:=[TreeX tt Fr.emp b45 s La]) zG (fun m hm hd=>tLeaves_c (TreeX.lent hTA.hd hd hm) hA0 hTA.small) ?_;rintro _ _ ⟨a174,c174,rfl,rfl⟩
       try simp only [zx1,zx2,zx3]
       refine O.callB (.g rfl rfl) rfl zC rfl rfl (bs:=[ListP (LeafG tys) 31 (.slice a174 La.length c174) La]) zG (fun m hm hd=>sameLeaves_c (hV.mono (Fr.sub_add_left _ _)) ((list_one hm).mono (Fr.sub_add_right hd))) ?_;rintro _ _ ⟨rfl,rfl⟩
       try simp only [zx1,zx2,zx3]
       refine O.sT 175 rfl zI ?_;refine O.q 2 rfl<|O.nil ?_;exact S.rt results4 rfl hR ⟨rfl,rfl⟩
    ·
     refine S.region rfl<|O.q 2 rfl<|O.callS (.p rfl) rfl zC rfl rfl zD (tPut_c (b:=b41) hT ha zK hsl) ?_;rintro _ _ ⟨rfl,rfl⟩
     try simp only [zx1,zx2,zx3]
     refine O.op (.p rfl) (.neq rfl rfl)<|O.sT 49 rfl (by exact decide_eq_true hE) ?_;refine O.nil<|S.condT rfl<|S.seq ?_;rw [if_neg hE];refine S.region rfl<|O.q 1 rfl<|O.callB (.p rfl) rfl zC rfl rfl (bs:=[TreeX tt Fr.emp b41 s []]) zG (fun m hm hd=>tLeaves_c (TreeX.lent hT.hd hd hm) (TreeOk.nil s) ⟨by simp,fun _ h=>by cases h⟩) ?_;rintro _ _ ⟨a51,c51,rfl,rfl⟩
     try simp only [zx1,zx2,zx3]
     refine O.op (.p rfl) (.len rfl underlying25 rfl)<|O.op (.p rfl) (.eql rfl rfl)<|O.sT 53 rfl zF ?_;refine O.q 1 rfl<|O.nil ?_;exact S.rt results4 rfl hR ⟨rfl,rfl⟩
theorem merkleAlike_e {r:Fr} {z:Int} {va vb:Value} {l other:List LeafT} {s:ByteArray} (hz:InI64 z) (ha:Arr LeafRp r va l) (hb:Arr LeafRp r vb other) (hs:s.size≤maxLen) (hH:At r ⟨0,0,none⟩ (w64s shaH)) (hK:At r ⟨1,0,none⟩ (w64s shaK)) :
  Con prog 4 #[.int .i64 z,va,vb,.string s] r [] (Ret fun v η=>v=.bool true∧η=[]):=by
 have e:s=str s.data.toList:=rfl;rw [e];refine merkleAlike_c hz ha hb ?_ hH hK;rw [Array.length_toList];exact Nat.le_trans hs zE
end Go.Proofs.YtojafegjlahajaaGreatDoor
