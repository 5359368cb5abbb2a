/- Texts of this proof. -/
import Derived.Test.YtojafegjlahajaaGreatDoorQPut3
import Derived.Test.YtojafegjlahajaaGreatDoorQSpPut2
import Derived.Test.YtojafegjlahajaaGreatDoorQLaw12a
open Go Go.Sp Go.Proofs.Tryz
set_option maxRecDepth 100000
set_option maxHeartbeats 1000000
attribute [local irreducible] obj Own OwnP
namespace Go.Proofs.YtojafegjlahajaaGreatDoor
attribute [local irreducible] treeNode treeSum
theorem treeX_zS {d:Fr} {b s:Nat} {L:List LeafT} {m:Fr} (h:Sat [TreeX tt d b s L] m):TreeZ tt d b s L L m:=by
 obtain ⟨m1,_,_,s1,_,o,_⟩:=h;obtain ⟨x,hx⟩:=TreeX.z o;exact ⟨x,Sat.mono s1 hx⟩
theorem putE_cut {s:Nat}:∀ {l:List LeafT} {i:Nat} (hi:i<l.length),(∀ x∈l.take i,putOk s x)→putE1 s l[i]≠0→putE s l=putE1 s l[i]
 |x::l,0,_,_,ne=>by unfold putE;rw [if_neg (by simpa using ne)];rfl
 |x::l,i+1,hi,h,ne=>by
  have h0:putE1 s x=0:=putE1_0.2 (h x zI);have:putE s (x::l)=putE s l:=by
   show (if putE1 s x=0 then putE s l else putE1 s x)=putE s l
   rw [if_pos h0]
  rw [this];exact putE_cut (l:=l) (i:=i) (by simpa using hi) (fun y hy=>h y (by simp [hy])) (by simpa using ne)
theorem take_all {α:Type} {P:α→Prop} {l:List α} {i:Nat} (hi:i<l.length) (h:∀ x∈l.take i,P x) (hp:P l[i]):∀ x∈l.take (i+1),P x:=fun x hx=>by
 rw [ztg hi] at hx
 rcases List.mem_append.1 hx with q|q
 ·exact h x q
 ·rw [List.mem_singleton.1 q];exact hp
theorem putsL_len:∀ (l L:List LeafT),(putsL L l).length≤L.length+l.length
 |[],L=>Nat.le_refl _
 |x::l,L=>by
  have h1:=putsL_len l (putL L x);have h2:=putL_len L x;have e:putsL L (x::l)=putsL (putL L x) l:=rfl;rw [e,zlc];omega
theorem putsL_small {N:Nat}:∀ (l L:List LeafT),(∀ z∈L,z.2.1.length≤N)→(∀ z∈l,z.2.1.length≤N)→∀ z∈putsL L l,z.2.1.length≤N
 |[],_,h,_=>h
 |x::l,L,h,hl=>putsL_small l (putL L x) (putL_small h (hl x zI)) fun z hz=>hl z (by simp [hz])
theorem putE1_key {s:Nat} {x:LeafT} (h:¬ (keyOk x.1∧shardOf x.1=s)):putE1 s x=22:=by unfold putE1;rw [if_pos h]
theorem putE1_set {s:Nat} {x:LeafT} (h:keyOk x.1∧shardOf x.1=s) (k:¬ ofK x.1 x.2.1):putE1 s x=4:=by unfold putE1;rw [if_neg (by simp [h]),if_pos k]
set_option maxHeartbeats 800000 in
theorem tPut_c {r d:Fr} {b s:Nat} {L l:List LeafT} {va:Value} (hT:TreeH r d s L) (ha:Arr LeafRp r va l) (hl:L.length+l.length≤10000000) (hsm:∀ y∈l,y.2.1.length≤10000000) :
  Con prog 30 #[.pointer (some ⟨b,0,none⟩),va] r [TreeX tt d b s L] (Ret fun u η=>u=.int .i64 (putE s l)∧η=[TreeX tt d b s (if putE s l=0 then putsL L l else L)]):=by
 obtain ⟨a1,c1,rfl⟩:=ha.shape;refine Con.o func30 fun g hg R hR=>?_;have hT:=hT.mono hg;have ha:=ha.mono hg;refine zz 8 ?_;refine O.callB (.p rfl) rfl zC rfl rfl (bs:=[TreeX tt d b s L]) zG (fun m hm hd=>there_yes (TreeX.lent hT.hd hd hm)) ?_;rintro _ _ ⟨rfl,rfl⟩;refine O.sT 12 rfl zF ?_;refine zz 12 ?_;refine S.loopK (ι:=Nat) (fun i=>i≤l.length∧∀ x∈l.take i,putOk s x) (fun i=>[(16,.int .i64 (i:Int))]) [(0,_),(1,_),(14,_),(15,_)] (fun i=>[TreeX tt d b s L]) (fun i=>l.length - i) (0) (by exact ⟨Nat.zero_le _,fun x hx=>by cases hx⟩) zq zq rfl fun i hx ih=>?_;have hm1:=meltRefl (g:=g);obtain ⟨hx1,hx2⟩:=hx;refine zz 5 ?_;refine S.cd rfl (fun h17=>?_) fun h17=>?_
 ·have hi:i<l.length:=by omega
  have hli:=hsm _ (List.getElem_mem hi)
  by_cases k1:keyOk l[i].1
  ·have k0:l[i].1.length≤64:=k1.2
   by_cases k2:shardOf l[i].1=s
   ·by_cases k3:ofK l[i].1 l[i].2.1
    ·
     refine zz 5 ?_;refine O.ia (.p rfl) underlying25 size31 rfl rfl (show _=(((i):Nat):Int) by omega) zA (h:=fun p18 cs18 hp18 hr18=>?_);obtain ⟨la1_18,lc1_18,rfl,ho0_18,ha1_18⟩:=LeafRp.sh hr18;refine O.op (.p rfl) (.loadAgg isAgg31 zC rfl hp18) ?_;refine O.opE (.p rfl) (.alloc (cs:=[.string ⟨#[]⟩,.slice none 0 0]) zeroValue31 rfl) ?_;rintro _ _ ⟨b6,rfl,rfl⟩;refine zz 5 ?_;refine S.frzO zD fun g hs hm h6=>?_;replace hg:=zfs hg hs;replace hR:=melted hR hm
     try replace hT:=hT.mono hs
     try replace ha:=ha.mono hs
     try replace hp18:=hp18.mono hs
     try replace ha1_18:=ha1_18.mono hs
     try replace hr18:=hr18.mono hs
     replace hm1:=meltTrans hm1 hm;clear hs hm;refine zz 3 ?_;refine O.v0 (.p rfl) rfl zC rfl rfl ((mlong_c zB)) ?_;refine O.sT 23 rfl (by exact zdt k1) ?_;refine zz 4 ?_;refine S.regionD (L:=[0,1,3,4,5,2,6,7,8]) F.mixed zC ?_;refine zz 5 ?_;refine OD.alt2 2 6 [6,7,8] [2,7,8] zC rfl rfl ?_ ?_
     ·refine ODt.call0 (.p rfl) zC rfl zC rfl rfl ((shOf_c hT.hH hT.hK zB)) ?_
      rintro _ _ ⟨rfl,rfl⟩;refine OD.loadL (.p rfl) zC (fun _=>.treeShard flat3 zF zD) ?_;refine zz 1 ?_;refine OD.sF 32 rfl (by exact zdf zB) ?_;refine zz 9 ?_;refine O.v0 (.p rfl) rfl zC rfl rfl ((mof_c ha1_18 zB)) ?_;refine O.sT 38 rfl (by exact zdt k3) ?_;refine zz 11 ?_;exact S.melt hm1 (S.wk (ih (i+1) (by exact ⟨by omega,take_all hi hx2 ⟨⟨k1,k2⟩,k3⟩⟩) zB))
     ·refine ODt.loadL (.p rfl) zC (fun _=>.treeShard flat3 zF zD) ?_
      refine OD.v0 (.p rfl) zC rfl zC rfl rfl ((shOf_c hT.hH hT.hK zB))<|zz 1 ?_;refine OD.sF 32 rfl (by exact zdf zB)<|zz 9 ?_;refine O.v0 (.p rfl) rfl zC rfl rfl ((mof_c ha1_18 zB)) ?_;refine O.sT 38 rfl (by exact zdt k3)<|zz 11 ?_;exact S.melt hm1 (S.wk (ih (i+1) (by exact ⟨by omega,take_all hi hx2 ⟨⟨k1,k2⟩,k3⟩⟩) zB))
    ·have e4:=putE1_set ⟨k1,k2⟩ k3
     have hE:putE s l=4:=(putE_cut hi hx2 (by rw [e4];decide)).trans e4;rw [hE,if_neg zE] at hR;refine zz 5 ?_;refine O.ia (.p rfl) underlying25 size31 rfl rfl (show _=(((i):Nat):Int) by omega) zA (h:=fun p18 cs18 hp18 hr18=>?_);obtain ⟨la1_18,lc1_18,rfl,ho0_18,ha1_18⟩:=LeafRp.sh hr18;refine O.op (.p rfl) (.loadAgg isAgg31 zC rfl hp18) ?_;refine O.opE (.p rfl) (.alloc (cs:=[.string ⟨#[]⟩,.slice none 0 0]) zeroValue31 rfl) ?_;rintro _ _ ⟨b6,rfl,rfl⟩;refine zz 5 ?_;refine S.frzO zD fun g hs hm h6=>?_;replace hg:=zfs hg hs;replace hR:=melted hR hm
     try replace hT:=hT.mono hs
     try replace ha:=ha.mono hs
     try replace hp18:=hp18.mono hs
     try replace ha1_18:=ha1_18.mono hs
     try replace hr18:=hr18.mono hs
     replace hm1:=meltTrans hm1 hm;clear hs hm;refine zz 3 ?_;refine O.v0 (.p rfl) rfl zC rfl rfl ((mlong_c zB)) ?_;refine O.sT 23 rfl (by exact zdt k1) ?_;refine zz 4 ?_;refine S.regionD (L:=[0,1,3,4,5,2,6,7,8]) F.mixed zC ?_;refine zz 5 ?_;refine OD.alt2 2 6 [6,7,8] [2,7,8] zC rfl rfl ?_ ?_
     ·refine ODt.call0 (.p rfl) zC rfl zC rfl rfl ((shOf_c hT.hH hT.hK zB)) ?_
      rintro _ _ ⟨rfl,rfl⟩;refine OD.loadL (.p rfl) zC (fun _=>.treeShard flat3 zF zD) ?_;refine zz 1 ?_;refine OD.sF 32 rfl (by exact zdf zB) ?_;refine zz 9 ?_;refine O.v0 (.p rfl) rfl zC rfl rfl ((mof_c ha1_18 zB)) ?_;refine O.sF 38 rfl (by exact zdf k3) ?_;refine zz 8 ?_;exact S.rt results30 rfl hR ⟨rfl,rfl⟩
     ·refine ODt.loadL (.p rfl) zC (fun _=>.treeShard flat3 zF zD) ?_
      refine OD.v0 (.p rfl) zC rfl zC rfl rfl ((shOf_c hT.hH hT.hK zB))<|zz 1 ?_;refine OD.sF 32 rfl (by exact zdf zB)<|zz 9 ?_;refine O.v0 (.p rfl) rfl zC rfl rfl ((mof_c ha1_18 zB)) ?_;refine O.sF 38 rfl (by exact zdf k3)<|zz 8 ?_;exact S.rt results30 rfl hR ⟨rfl,rfl⟩
   ·have e4:=putE1_key (s:=s) (x:=l[i]) (fun q=>k2 q.2)
    have hE:putE s l=22:=(putE_cut hi hx2 (by rw [e4];decide)).trans e4;rw [hE,if_neg zE] at hR;refine zz 5 ?_;refine O.ia (.p rfl) underlying25 size31 rfl rfl (show _=(((i):Nat):Int) by omega) zA (h:=fun p18 cs18 hp18 hr18=>?_);obtain ⟨la1_18,lc1_18,rfl,ho0_18,ha1_18⟩:=LeafRp.sh hr18;refine O.op (.p rfl) (.loadAgg isAgg31 zC rfl hp18) ?_;refine O.opE (.p rfl) (.alloc (cs:=[.string ⟨#[]⟩,.slice none 0 0]) zeroValue31 rfl) ?_;rintro _ _ ⟨b6,rfl,rfl⟩;refine zz 5 ?_;refine S.frzO zD fun g hs hm h6=>?_;replace hg:=zfs hg hs;replace hR:=melted hR hm
    try replace hT:=hT.mono hs
    try replace ha:=ha.mono hs
    try replace hp18:=hp18.mono hs
    try replace ha1_18:=ha1_18.mono hs
    try replace hr18:=hr18.mono hs
    replace hm1:=meltTrans hm1 hm;clear hs hm;refine zz 3 ?_;refine O.v0 (.p rfl) rfl zC rfl rfl ((mlong_c zB)) ?_;refine O.sT 23 rfl (by exact zdt k1) ?_;refine zz 4 ?_;refine S.regionD (L:=[0,1,3,4,5,2,6,7,8]) F.mixed zC ?_;refine zz 5 ?_;refine OD.alt2 2 6 [6,7,8] [2,7,8] zC rfl rfl ?_ ?_
    ·refine ODt.call0 (.p rfl) zC rfl zC rfl rfl ((shOf_c hT.hH hT.hK zB)) ?_
     rintro _ _ ⟨rfl,rfl⟩;refine OD.loadL (.p rfl) zC (fun _=>.treeShard flat3 zF zD) ?_;refine zz 1 ?_;refine OD.sT 32 rfl (by exact zdt zB) ?_;refine zz 7 ?_;exact S.rt results30 rfl hR ⟨rfl,rfl⟩
    ·refine ODt.loadL (.p rfl) zC (fun _=>.treeShard flat3 zF zD) ?_
     refine OD.v0 (.p rfl) zC rfl zC rfl rfl ((shOf_c hT.hH hT.hK zB))<|zz 1 ?_;refine OD.sT 32 rfl (by exact zdt zB)<|zz 7 ?_;exact S.rt results30 rfl hR ⟨rfl,rfl⟩
  ·have e4:=putE1_key (s:=s) (x:=l[i]) (fun q=>k1 q.1)
   have hE:putE s l=22:=(putE_cut hi hx2 (by rw [e4];decide)).trans e4;rw [hE,if_neg zE] at hR;refine zz 5 ?_;refine O.ia (.p rfl) underlying25 size31 rfl rfl (show _=(((i):Nat):Int) by omega) zA (h:=fun p18 cs18 hp18 hr18=>?_);obtain ⟨la1_18,lc1_18,rfl,ho0_18,ha1_18⟩:=LeafRp.sh hr18;refine O.op (.p rfl) (.loadAgg isAgg31 zC rfl hp18) ?_;refine O.opE (.p rfl) (.alloc (cs:=[.string ⟨#[]⟩,.slice none 0 0]) zeroValue31 rfl) ?_;rintro _ _ ⟨b6,rfl,rfl⟩;refine zz 8 ?_;refine O.v0 (.p rfl) rfl zC rfl rfl ((mlong_c ho0_18)) ?_;refine O.sF 23 rfl (by exact zdf k1) ?_;refine zz 10 ?_;exact S.rt results30 rfl hR ⟨rfl,rfl⟩
 ·clear ih
  have hi:i=l.length:=by omega
  subst hi;rw [List.take_length] at hx2;have hE:putE s l=0:=putE_0.2 hx2;rw [hE,if_pos rfl] at hR;refine S.imp (η' :=[TreeX tt d b s (putsL L (l.take 0))]) (fun m h=>h) ?_;refine zz 9 ?_;refine S.loopK (ι:=Nat) (fun i=>i≤l.length) (fun i=>[(43,.int .i64 (i:Int))]) [(0,_),(41,_),(42,_)] (fun i=>[TreeX tt d b s (putsL L (l.take i))]) (fun i=>l.length - i) (0) zI zq zq rfl fun i hx ih=>?_;have hm2:=meltRefl (g:=g);refine zz 5 ?_;refine S.cd rfl (fun h44=>?_) fun h44=>?_
  ·have hi:i<l.length:=by omega
   have hli:=hsm _ (List.getElem_mem hi);have hoi:=hx2 _ (List.getElem_mem hi);have k0:l[i].1.length≤64:=hoi.1.1.2;have hLi:TreeOk s (putsL L (l.take i)):=TreeOk.puts hT.ok (fun x hx=>hx2 x (List.mem_of_mem_take hx));have hn:=putsL_len (l.take i) L;have htl:(l.take i).length=i:=by simp;omega
   have hsn:putsL L (l.take (i+1))=putL (putsL L (l.take i)) (l[i].1,l[i].2.1,()):=putsL_take hi;generalize putsL L (l.take i)=Li at hLi hn hsn ⊢;refine zz 5 ?_;refine O.ia (.p rfl) underlying25 size31 rfl rfl (show _=(((i):Nat):Int) by omega) zA (h:=fun p45 cs45 hp45 hr45=>?_);obtain ⟨la1_45,lc1_45,rfl,ho0_45,ha1_45⟩:=LeafRp.sh hr45;refine O.op (.p rfl) (.loadAgg isAgg31 zC rfl hp45) ?_;refine O.opE (.p rfl) (.alloc (cs:=[.string ⟨#[]⟩,.slice none 0 0]) zeroValue31 rfl) ?_;rintro _ _ ⟨b8,rfl,rfl⟩;refine zz 1 ?_;refine O.nil<|S.seq<|S.frzO zD fun g hs hm h8=>?_;replace hg:=zfs hg hs;replace hR:=melted hR hm
   try replace hT:=hT.mono hs
   try replace ha:=ha.mono hs
   try replace hp45:=hp45.mono hs
   try replace ha1_45:=ha1_45.mono hs
   try replace hr45:=hr45.mono hs
   replace hm1:=meltTrans hm1 hm;replace hm2:=meltTrans hm2 hm;clear hs hm;refine S.foldS (A:=TreeZ tt d b s Li Li) (bs:=[TreeX tt d b s Li]) zG (fun m h=>treeX_zS h) ?_;refine S.regionD (L:=[0,1,2,3,4,6,7,5,8,9,10]) F.mixed zC ?_;refine zz 7 ?_;refine OD.v0 (.p rfl) zC rfl zC rfl rfl ((sClone_c zB)) ?_;refine OD.call0 (.p rfl) zC rfl zC rfl rfl ((own_c ha1_45 hoi.2.1 zB)) ?_;rintro _ _ ⟨a55,c55,rfl,rfl⟩;refine .quiet (.p rfl) rfl (fun _=>.build (cs:=[_,_]) underlying31 rfl rfl rfl rfl rfl)<|OD.callSs (.p rfl) zC rfl zC rfl rfl (bs:=[TreeZ tt d b s Li Li,ListP (RecG tys) 102 (.slice a55 l[i].2.1.length c55) l[i].2.1]) zG (stand_c hT.hd hLi.2 zB zB hT.hH hT.hK) ?_;rintro _ _ ⟨rfl,rfl⟩;refine zz 5 ?_;refine O.v0 (.p rfl) rfl zC rfl rfl ((shBits_c hT.hH hT.hK zB)) ?_;refine zz 3 ?_;rw [← hsn];refine S.open (bs:=fun x:TreeO d Li=>TreeO.wz tt b s x (putsL L (l.take (i+1)))) zD (fun m h=>TreeZ.opn h) fun x=>?_;obtain ⟨k,vL,vW,mid,M,cM,wf,ok⟩:=x;simp only [TreeO.wz,List.cons_append,List.nil_append];refine zz 5 ?_;refine O.opE (.p rfl) (.rangeK underlying75 rfl zD) ?_;rintro _ _ ⟨it65,rfl,rfl⟩;refine O.nil<|S.block<|S.pk (ζ:=[IterK (K:=List UInt8) it65 mid cM [],MapK encS mid M cM,IsP k,obj b 77 [vL,vW,.int .i64 (s:Int),.map (some mid)],OwnP (Rp.cv d k LeafRp) 31 vL (putsL L (l.take (i+1))),OwnP Rp.str 9 vW ((putsL L (l.take (i+1))).map fun y=>wayOf y.1)]) zP ?_
   refine S.loopK3 (ι:=List (KEnt (List UInt8))) (κ:=List (KEnt (List UInt8))) (υ:=List (KEnt (List UInt8))) (fun dn td cur=>Thin M (fun p=>p.isPrefixOf (wayOf l[i].1)) cM dn td cur) (fun dn td cur=>[]) [(0,_),(9,_),(41,_),(42,_),(43,_),(65,_)] (fun dn td cur=>[IterK it65 mid cM dn,MapK encS mid cur cM,IsP k,obj b 77 [vL,vW,.int .i64 (s:Int),.map (some mid)],OwnP (Rp.cv d k LeafRp) 31 vL (putsL L (l.take (i+1))),OwnP Rp.str 9 vW ((putsL L (l.take (i+1))).map fun y=>wayOf y.1)]) (fun dn td cur=>td.length) ([]) (M) (M) (by exact Thin.start wf) (.nil) zq (by with_reducible rfl) fun dn td cur hx ih=>?_;have hm3:=meltRefl (g:=g);refine S.seq<|S.region rfl<|O.nextKD (.p rfl) rfl hx.wfM hx.hp hx.wf hx.sub hx.left zD zD (fun h66=>?_) (fun y66 t166 t266 h66=>?_)
   ·clear ih
    subst h66;have okn:SumsOk d k (putsL L (l.take (i+1))) cur:=by rw [hsn];exact ok.thin hLi.2 hx
    refine zz 6 ?_;refine S.foldS (A:=TreeX tt d b s (putsL L (l.take (i+1)))) (bs:=TreeO.ws tt b s ⟨k,vL,vW,mid,cur,cM,hx.wf,okn⟩) zG (fun m h=>TreeX.fold _ h) ?_;refine zz 4 ?_;exact S.melt hm2 (S.pw (ih (i+1) zB zB))
   ·subst h66
    have hmem:y66∈cur:=hx.left _ zI;have hpl:y66.1.length≤510:=(ok y66.1 y66.2.1 (getK_mem wf.2.2 (hx.sub _ hmem))).1.1;refine zz 8 ?_;refine O.op (.p rfl) (.entryK rfl hx.wf hmem zD zD) ?_;refine zz 4 ?_
    by_cases qq:y66.1.isPrefixOf (wayOf l[i].1)=true
    ·
     refine zz 3 ?_;refine O.v0 (.p rfl) rfl zC rfl rfl ((hasPrefix_c (by rw [wayOf_len];decide) zB)) ?_;refine O.sT 72 rfl (by exact qq)<|zz 7 ?_;refine O.q 1 rfl<|O.deleteK rfl underlying75 (keyOkS underlying9) rfl rfl zD<|zz 2 ?_;exact S.pw (ih (dn++[y66]) (t166++t266) (delK cur y66.1) (by exact hx.drop) zI)
    ·have qq' :=Bool.eq_false_iff.2 qq
     refine zz 3 ?_;refine O.v0 (.p rfl) rfl zC rfl rfl ((hasPrefix_c (by rw [wayOf_len];decide) zB)) ?_;refine O.sF 72 rfl (by exact qq')<|zz 4 ?_;exact S.pw (ih (dn++[y66]) (t166++t266) (cur) (by exact hx.keep qq') zI)
  ·clear ih
   have hi:i=l.length:=by omega
   subst hi;rw [List.take_length];refine zz 5 ?_;exact S.rt results30 rfl hR ⟨rfl,rfl⟩
theorem tGet_c {r d:Fr} {b s:Nat} {L:List LeafT} {p:List UInt8} (hT:TreeH r d s L) :
  Con prog 39 #[.pointer (some ⟨b,0,none⟩),.string (str p)] r [TreeX tt d b s L] (Ret fun v η=>∃ a c,v=.slice a (getL L p).length c∧η=[TreeX tt d b s L,ListP (RecG tys) 102 (.slice a (getL L p).length c) (getL L p)]):=by
 have hbL:L.length≤10000000:=hT.small.1;refine Con.o func39 fun g hg R hR=>?_;have hT:=hT.mono hg;refine zz 8 ?_;refine O.callB (.p rfl) rfl zC rfl rfl (bs:=[TreeX tt d b s L]) zG (fun m hm hd=>there_yes (TreeX.lent hT.hd hd hm)) ?_;rintro _ _ ⟨rfl,rfl⟩;refine O.sT 8 rfl zF ?_;refine zz 11 ?_;refine O.callB (.p rfl) rfl zC rfl rfl (bs:=[TreeX tt d b s L]) zG (fun m hm hd=>find_c (TreeX.lent hT.hd hd hm) hT.ok.2 zB) ?_;rintro _ _ ⟨rfl,rfl⟩;refine zz 7 ?_
 by_cases q:isAt L p
 ·have hi:=q.1
  have e:getL L p=(L[lessL L p]'hi).2.1:=by unfold getL;rw [dif_pos q]
  have hset:=hT.small.2 _ (List.getElem_mem hi);have hleaf:=(hT.ok.1 _ (List.getElem_mem hi)).1;rw [e] at hR;have hg_o:=hg;have hR_o:=hR
  try have hT_o:=hT
  refine S.frzH (B:=TreeX tt d b s L) zD fun go hso ⟨mo,hmo,hsmo⟩ hbo=>?_;replace hg:=zfs hg hso;replace hR:=backR hR hbo
  try replace hT:=hT.mono hso
  have hA:=TreeX.a hT.hd hsmo hmo;obtain ⟨aL,cL,aW,cW,mid,hat0,hL0,hW0⟩:=hA;refine zz 2 ?_;refine O.sT 18 rfl (by exact zdt q) ?_;refine zz 9 ?_;refine O.q 1 rfl<|O.ia (.p rfl) underlying25 size31 rfl rfl (show _=(((lessL L p):Nat):Int) by omega) (hL0) (h:=fun p25 cs25 hp25 hr25=>?_);obtain ⟨l1,m1,rfl,l2,l3⟩:=LeafRp.sh hr25;refine zz 2 ?_;refine O.call0 (.p rfl) rfl zC rfl rfl ((own_c l3 hleaf.2.1 zB)) ?_;rintro _ _ ⟨a28,c28,rfl,rfl⟩;refine O.q 1 rfl<|O.nil<|S.back hbo ?_;replace hg:=hg_o;replace hR:=hR_o
  try replace hT:=hT_o
  clear hg_o hR_o;exact S.rt results39 rfl hR ⟨a28,c28,rfl,rfl⟩
 ·have e:getL L p=[]:=by unfold getL;rw [dif_neg q]
  rw [e] at hR;refine zz 2 ?_;refine O.sF 18 rfl (by exact zdf q) ?_;refine zz 7 ?_;refine S.listNil (RecG tys) 102 ?_;exact S.rt results39 rfl hR ⟨none,0,rfl,rfl⟩
theorem tLeaves_c {r:Fr} {b s:Nat} {L:List LeafT} (h:TreeA r b s L) (hok:TreeOk s L) (hs:L.length≤10000000∧∀ y∈L,y.2.1.length≤10000000) :
  Con prog 31 #[.pointer (some ⟨b,0,none⟩)] r [] (Ret fun v η=>∃ a c,v=.slice a L.length c∧η=[ListP (LeafG tys) 31 (.slice a L.length c) L]):=by
 have h0:=h;have hbL:=hs.1;obtain ⟨aL,cL,aW,cW,mid,h,hL,_⟩:=h;refine Con.o func31 fun g hg R hR=>?_;have h:=h.mono hg;have h0:=h0.mono hg;have hL:=hL.mono hg;refine S.listNil (LeafG tys) 31 ?_;refine zz 8 ?_;refine O.v0 (.p rfl) rfl zC rfl rfl ((there_yes h0)) ?_;refine O.sT 7 rfl zF ?_;refine zz 20 ?_;refine S.loopK2 (ι:=Nat) (κ:=Option Addr × Nat) (fun i u=>i≤L.length) (fun i u=>[(15,.int .i64 (i:Int)),(3,.slice u.1 (L.take i).length u.2)]) [(13,_),(14,_)] (fun i u=>[ListP (LeafG tys) 31 (.slice u.1 (L.take i).length u.2) (L.take i)]) (fun i u=>L.length - i) (0) ((none,0)) zI zq zq rfl fun i u hx ih=>?_;have hm1:=meltRefl (g:=g);refine zz 5 ?_;refine S.cd rfl (fun h16=>?_) fun h16=>?_
 ·have hi:i<L.length:=by omega
  have hset:=hs.2 _ (List.getElem_mem hi);have hleaf:=(hok.1 _ (List.getElem_mem hi)).1;have hsn:L.take i++[L[i]]=L.take (i+1):=(ztg hi).symm;have htl:(L.take i).length=i:=by simp;omega
  have htl2:(L.take (i+1)).length=i+1:=by simp;omega
  refine zz 5 ?_;refine O.ia (.p rfl) underlying25 size31 rfl rfl (show _=(((i):Nat):Int) by omega) zA (h:=fun p17 cs17 hp17 hr17=>?_);obtain ⟨la1_17,lc1_17,rfl,ho0_17,ha1_17⟩:=LeafRp.sh hr17;refine O.op (.p rfl) (.loadAgg isAgg31 zC rfl hp17) ?_;refine O.opE (.p rfl) (.alloc (cs:=[.string ⟨#[]⟩,.slice none 0 0]) zeroValue31 rfl) ?_;rintro _ _ ⟨b5,rfl,rfl⟩;refine zz 1 ?_;refine O.nil<|S.frzO zD fun g hs hm h5=>?_;replace hg:=zfs hg hs;replace hR:=melted hR hm
  try replace h:=h.mono hs
  try replace h0:=h0.mono hs
  try replace hL:=hL.mono hs
  try replace hp17:=hp17.mono hs
  try replace ha1_17:=ha1_17.mono hs
  try replace hr17:=hr17.mono hs
  replace hm1:=meltTrans hm1 hm;clear hs hm;refine S.listOpen (G:=LeafG tys) (k' :=2) rfl zD fun css hcl=>?_;rw [← hcl];refine S.regionD (L:=.range 10) F.mixed zC ?_;refine zz 5 ?_;refine OD.call0 (.p rfl) zC rfl zC rfl rfl ((own_c ha1_17 hleaf.2.1 zB)) ?_;rintro _ _ ⟨a24,c24,rfl,rfl⟩;refine .quiet (.p rfl) rfl (fun _=>.build (cs:=[_,_]) underlying31 rfl rfl rfl rfl rfl)<|OD.litP (T:=(Rp.cells 2)) (ys:=[_]) (.p rfl) zC underlying25 elem31 zE rfl rfl ⟨⟨rfl,rfl,by first|(simp;done)|(intro v hv;simp [Value.cells] at hv;rcases hv with rfl|rfl<;>rfl)|(refine List.forall_mem_cons.2 ⟨rfl,?_⟩;repeat (first|exact (fun _ h=>absurd h List.not_mem_nil)|refine List.forall_mem_cons.2 ⟨rfl,?_⟩))⟩,trivial⟩ zE (fun a26 c26=>?_);refine OD.appendO (.p rfl) zC (T:=(Rp.cells 2)) underlying25 elem31 zE rfl rfl zD zD zH zH (fun a27 c27=>?_);refine zz 3 ?_;refine S.foldS (A:=(LeafG tys).own [.string (str L[i].1),.slice a24 L[i].2.1.length c24] (L[i].1,L[i].2.1,())) (bs:=[ListP (RecG tys) 102 (.slice a24 L[i].2.1.length c24) L[i].2.1]) zG (fun m h=>LeafG.mk (by have:=hleaf.1.2;omega) h) ?_;refine S.listPut (G:=LeafG tys) (k' :=2) rfl zD zD zD ?_;rw [show (L[i].1,L[i].2.1,())=L[i] from rfl,hsn];refine S.slot 3 (v' :=.slice a27 (L.take (i+1)).length c27) rfl (by rw [hcl,htl,htl2];rfl) ?_;simp only [List.length_singleton];rw [show css.length+1=(L.take (i+1)).length by omega];refine zz 4 ?_
  exact S.melt hm1 (S.pw (ih (i+1) ((a27,c27)) zB zB))
 ·clear ih
  have hi:i=L.length:=by omega
  subst hi;rw [List.take_of_length_le zB];refine zz 6 ?_;exact S.rt results31 rfl hR ⟨u.1,u.2,rfl,rfl⟩
def pick (x n:Int):Int:=if n<1 then 0 else if x.tmod n<0 then x.tmod n+n else x.tmod n
theorem Pick_c {r:Fr} (x n:Int) (hn:InI64 n):Con prog 28 #[.int .i64 x,.int .i64 n] r [] (Ret fun v η=>v=.int .i64 (pick x n)∧η=[]):=by
 refine Con.o func28 fun g hg R hR=>?_;unfold InI64 at hn;refine zz 10 ?_;refine S.cd rfl (fun h6=>?_) fun h6=>?_
 ·refine zz 4 ?_
  refine S.ret results28 rfl fun w hw=>hR _ _ w ?_ hw;exact ⟨by simp [pick,h6],rfl⟩
 ·have b1:=Int.tmod_lt_of_pos x (show 0<n by omega)
  have b2:=Int.lt_tmod_of_pos x (show 0<n by omega);refine zz 5 ?_;refine O.op (.p rfl) (.rem rfl rfl zB) ?_;refine zz 8 ?_;refine S.cd rfl (fun h11=>?_) fun h11=>?_
  ·refine zz 11 ?_
   refine S.ret results28 rfl fun w hw=>hR _ _ w ?_ hw;exact ⟨by simp [pick,h6,h11],rfl⟩
  ·refine zz 6 ?_
   refine S.ret results28 rfl fun w hw=>hR _ _ w ?_ hw;exact ⟨by simp [pick,h6,h11],rfl⟩
attribute [local irreducible] putsL
theorem pick_nat12 (x:Int) {n:Nat} (hn:0<n):∃ k:Nat,pick x n=(k:Int)∧k<n:=by
 have b1:=Int.tmod_lt_of_pos x (show 0<(n:Int) by omega);have b2:=Int.lt_tmod_of_pos x (show 0<(n:Int) by omega);have b3:0≤pick x n∧pick x n<n:=by
  unfold pick
  split
  ·omega
  ·split<;>omega
 exact ⟨(pick x n).toNat,by omega,by omega⟩
theorem alike_bl {L l:List LeafT} {N:Nat} (h1:L.length≤N) (h2:l.length≤100) (h3:∀ y∈L,y.2.1.length≤10000000) (h4:∀ y∈l,y.2.1.length≤10000000) (hN:N≤1000):(putsL L l).length≤10000000∧∀ y∈putsL L l,y.2.1.length≤10000000:=by
 have:=putsL_len l L;exact ⟨by omega,putsL_small l L h3 h4⟩
theorem list_one {α:Type} {G:Gp α} {e:TypeId} {v:Value} {xs:List α} {m:Fr} (h:Sat [ListP G e v xs] m):Arr G.rp m v xs:=by
 obtain ⟨m1,_,_,s1,_,o,_⟩:=h;exact (ListP.arr o).mono s1
end Go.Proofs.YtojafegjlahajaaGreatDoor
