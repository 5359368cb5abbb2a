/- Texts of this proof. -/
import Derived.Test.YtojafegjlahajaaGreatDoorQPut2
import Derived.Test.YtojafegjlahajaaGreatDoorQSes6
open Go Go.Sp Go.Proofs.Tryz
set_option maxRecDepth 100000
set_option maxHeartbeats 1000000
attribute [local irreducible] obj Own av
namespace Go.Proofs.YtojafegjlahajaaGreatDoor
attribute [local irreducible] cF bA
theorem oq (L:List aH) (i:Nat) (x:aH):(L.take i++[x]++L.drop i).map (fun y=>bT y.1)=(L.map fun y=>bT y.1).take i++[bT x.1]++(L.map fun y=>bT y.1).drop i:=by simp
theorem Fb (L:List aH) (i:Nat):(L.eraseIdx i).map (fun y=>bT y.1)=(L.map fun y=>bT y.1).eraseIdx i:=by rw [erase_eq,erase_eq];simp
theorem S2 {L:List aH} {x:aH} (h:eT L) (q:mA L x.1) (z:x.2.1.length≠0):gF L x=L.set (a_ L x.1) x:=by
 rw [JB h q,if_neg z,List.set_eq_take_append_cons_drop,if_pos q.1];simp
theorem SZ {L:List aH} {x:aH} (h:eT L) (q:mA L x.1) (z:x.2.1.length=0):gF L x=L.eraseIdx (a_ L x.1):=by
 rw [JB h q,if_pos z,erase_eq];simp
theorem S0 {L:List aH} {x:aH} (h:eT L) (q:¬ mA L x.1) (z:x.2.1.length≠0):gF L x=L.take (a_ L x.1)++[x]++L.drop (a_ L x.1):=by
 rw [Jz h q,if_neg z]
theorem S1 {L:List aH} {x:aH} (h:eT L) (q:¬ mA L x.1) (z:x.2.1.length=0):gF L x=L:=by
 rw [Jz h q,if_pos z];simp
theorem Uu {L:List aH} {x:aH} (q:mA L x.1):(L.set (a_ L x.1) x).map (fun y=>bT y.1)=L.map fun y=>bT y.1:=by
 obtain ⟨q1,q2⟩:=q;generalize a_ L x.1=j at q1 q2 ⊢;refine List.ext_getElem bq fun i h1 h2=>?_;rw [List.getElem_map,List.getElem_map,List.getElem_set]
 split
 ·subst i;rw [q2]
 ·rfl
theorem UO {r d:Fr} {b s:Nat} {L dI:List aH} {key:List UInt8} {set:List aQ} {a:Option Addr} {c:Nat} (wJ:d.sub r) (hr:eT L) (hb:L.length≤10000000) (hk:key.length≤10000000000)
  (hH:At r ⟨0,0,none⟩ (bQ ed)) (hK:At r ⟨1,0,none⟩ (bQ fZ)) :
  ay prog 90 #[.pointer (some ⟨b,0,none⟩),.agg #[.string (str key),.slice a set.length c]] r [fc aJ d b s L dI,c_ (eH cS) 102 (.slice a set.length c) set] (aM fun u U=>u=.tuple #[]∧U=[fc aJ d b s (gF L (key,set,())) dI]):=by
 have On:key.length≤9223372036854775807:=by omega
 have hle:=IS L key;have Ii:(bT key).length=510:=lp key;refine ay.of (n:=81) _ rfl func90 rfl rfl rfl fun g hg R hR=>?_;have wJ:=wJ.mono hg;have hH:=hH.mono hg;have hK:=hK.mono hg;refine S.cg (A:=fun m=>Sat [fc aJ d b s L dI,c_ (eH cS) 102 (.slice a set.length c) set] m) (bs:=[fc aJ d b s L dI,c_ (eH cS) 102 (.slice a set.length c) set]) aV (fun m h=>h) ?_;refine S.open (bs:=fun x:{x:bP d dI // ∃ q,jP q d x.k∧aj dc q (.slice a set.length c) set}=>x.1.pn aJ b s L) .here (fun m h=>fc.with h) fun ⟨x,qy⟩=>?_;obtain ⟨k,c8,c9,mid,M,dU,wf,ok⟩:=x;have iY:=Ro On qy;simp only [bP.pn,List.cons_append,List.nil_append];refine S.lF (.there (.there .here)) (fun _ y=>y.shape) fun ⟨cO,cQ,hL⟩=>?_;refine S.lF (.there (.there (.there .here))) (fun _ y=>y.shape) fun ⟨cB,cC,hW⟩=>?_;rw [List.length_map] at hW;subst hL hW;refine S.seq<|S.region rfl<|O.aO (.p rfl) (.box (cs:=[_,_]) rfl rfl) ?_;rintro _ _ ⟨b3,rfl,rfl⟩;refine O.nil<|S.seq<|S.eC (A:=obj b3 31 [.string (str key),.slice a set.length c]) ai fun g hs hm ⟨_,x',s'⟩=>?_;have eZ:=(fun s x=>(fK x).mono s) s' x';clear x' s';replace hg:=Fr.aI hg hs;replace hR:=bt hR hm
 try replace wJ:=wJ.mono hs
 try replace hH:=hH.mono hs
 try replace hK:=hK.mono hs
 clear hs hm;refine S.region rfl<|O.q 1 rfl<|O.op (.p rfl) (.fieldAddr eB rfl)<|O.op (.p rfl) (.loadAt bV rfl eZ rfl) ?_;refine O.cU (.p rfl) rfl aa rfl rfl (bs:=bP.pn aJ b s ⟨k,.slice cO L.length cQ,.slice cB L.length cC,mid,M,dU,wf,ok⟩ L) aV (fun m hm hd=>M1 (bP.seen ⟨k,.slice cO L.length cQ,.slice cB L.length cC,mid,M,dU,wf,ok⟩ wJ hd hm) hr ah) ?_;rintro _ _ ⟨rfl,rfl⟩
 try simp only [an,aq,au]
 refine O.q 5 rfl<|O.nil (S.block (S.seq ?_))
 by_cases q:mA L key
 ·have q1:=q.1
  by_cases z:set.length=0
  ·rw [SZ (x:=(key,set,())) hr q z] at hR
   refine S.toCells (T:=ag.fP d k cq) (K:=2) rfl ai fun ak kp=>?_;refine S.toCells (T:=ag.str) (K:=1) rfl ai fun cM ku=>?_;have e1:ak.length=L.length:=kp.length;have e2:cM.length=L.length:=by rw [ku.length,List.length_map]
   have b6:(ak.eraseIdx (a_ L key)).length=L.length - 1:=by rw [List.length_eraseIdx_of_lt ah,e1]
   have ff:(cM.eraseIdx (a_ L key)).length=L.length - 1:=by rw [List.length_eraseIdx_of_lt ah,e2]
   refine S.region rfl<|O.q 2 rfl<|O.sT 15 rfl (by exact decide_eq_true q) ?_;refine O.op (.g rfl rfl) (.fieldAddr gl rfl)<|O.op (.g rfl rfl) (.loadAt eN rfl (eZ.drop 1) rfl) ?_;refine O.op (.g rfl rfl) (.len rfl underlying22 rfl)<|O.op (.g rfl rfl) (.eql rfl rfl)<|O.sT 19 rfl (by exact decide_eq_true ah) ?_;refine O.q 2 rfl<|O.nil<|S.bC rfl<|S.bB (L:=[0,1,2,3,4,6,7,8,10,11,12,14,15,16,5,9,13,17,18,19,20,21,22,23]) bx aa ?_;refine af.q 3 rfl<|.quiet (.p rfl) rfl (fun _=>.nilCheck rfl)<|.quiet (.p rfl) rfl (fun _=>.aF gN rfl)<|af.q 2 rfl<|.quiet (.p rfl) rfl (fun _=>.add rfl rfl (IntWalk.i64_in _ ah))<|af.q 1 rfl<|.quiet (.p rfl) rfl (fun _=>.nilCheck rfl)<|.quiet (.p rfl) rfl (fun _=>.aF jA rfl)<|af.q 2 rfl<|.quiet (.p rfl) rfl (fun _=>.add rfl rfl (IntWalk.i64_in _ ah))<|af.eW 5 13 [9,13,17,18,19,20,21,22,23] [5,9,17,18,19,20,21,22,23] aa rfl rfl ?_ ?_
   ·refine bO.cr (.p rfl) aa (fun _=>.cK dO aG ai aG) ?_
    refine af.eW 9 13 [13,17,18,19,20,21,22,23] [9,17,18,19,20,21,22,23] aa rfl rfl ?_ ?_
    ·refine bO.bD (.p rfl) aa rfl aa rfl rfl ai (show ay _ _ _ _ _ _ from e1 ▸ BX (ak:=ak) (i:=a_ L key) ah) ?_
     rintro _ _ ⟨rfl,rfl⟩
     try simp only [an,aq,au]
     refine af.cr (.p rfl) aa (fun _=>.cK e6 aG ai aG) ?_;refine af.bD (.p rfl) aa rfl aa rfl rfl ai (show ay _ _ _ _ _ _ from e2 ▸ BY (ak:=cM) (i:=a_ L key) ah) ?_;rintro _ _ ⟨rfl,rfl⟩
     try simp only [an,aq,au]
     refine .quiet (.p rfl) rfl (fun _=>.nilCheck rfl)<|.quiet (.p rfl) rfl (fun _=>.aF gN rfl)<|af.bk rfl aa dO rfl rfl bn ai aT ?_;refine .quiet (.p rfl) rfl (fun _=>.nilCheck rfl)<|.quiet (.p rfl) rfl (fun _=>.aF jA rfl)<|af.bk rfl aa e6 rfl rfl bn ai aT ?_;refine aK.nil<|S.inBlock<|S.cg (A:=fc aJ d b s (L.eraseIdx (a_ L key)) dI) (bs:=bP.wc aJ b s ⟨k,.slice cO L.length cQ,.slice cB L.length cC,mid,M,dU,wf,ok⟩ (.slice cO (L.length - 1) cQ) (.slice cB (L.length - 1) cC) (ak.eraseIdx (a_ L key)) (cM.eraseIdx (a_ L key))) aV (fun m h=>bP.rows _ (uu _ kp) (by rw [Fb];exact uu _ ku) h) ?_;refine S.ej results90 fun w hw=>Holds.end_ hR hw ?_;exact pk ⟨rfl,rfl⟩
    ·refine bO.cr (.p rfl) aa (fun _=>.cK e6 aG ai aG) ?_
     refine af.bD (.p rfl) aa rfl aa rfl rfl ai (show ay _ _ _ _ _ _ from e1 ▸ BX (ak:=ak) (i:=a_ L key) ah) ?_;rintro _ _ ⟨rfl,rfl⟩
     try simp only [an,aq,au]
     refine af.bD (.p rfl) aa rfl aa rfl rfl ai (show ay _ _ _ _ _ _ from e2 ▸ BY (ak:=cM) (i:=a_ L key) ah) ?_;rintro _ _ ⟨rfl,rfl⟩
     try simp only [an,aq,au]
     refine .quiet (.p rfl) rfl (fun _=>.nilCheck rfl)<|.quiet (.p rfl) rfl (fun _=>.aF gN rfl)<|af.bk rfl aa dO rfl rfl bn ai aT ?_;refine .quiet (.p rfl) rfl (fun _=>.nilCheck rfl)<|.quiet (.p rfl) rfl (fun _=>.aF jA rfl)<|af.bk rfl aa e6 rfl rfl bn ai aT ?_;refine aK.nil<|S.inBlock<|S.cg (A:=fc aJ d b s (L.eraseIdx (a_ L key)) dI) (bs:=bP.wc aJ b s ⟨k,.slice cO L.length cQ,.slice cB L.length cC,mid,M,dU,wf,ok⟩ (.slice cO (L.length - 1) cQ) (.slice cB (L.length - 1) cC) (ak.eraseIdx (a_ L key)) (cM.eraseIdx (a_ L key))) aV (fun m h=>bP.rows _ (uu _ kp) (by rw [Fb];exact uu _ ku) h) ?_;refine S.ej results90 fun w hw=>Holds.end_ hR hw ?_;exact pk ⟨rfl,rfl⟩
   ·refine bO.cr (.p rfl) aa (fun _=>.cK e6 aG ai aG) ?_
    refine af.cr (.p rfl) aa (fun _=>.cK dO aG ai aG) ?_;refine af.bD (.p rfl) aa rfl aa rfl rfl ai (show ay _ _ _ _ _ _ from e1 ▸ BX (ak:=ak) (i:=a_ L key) ah) ?_;rintro _ _ ⟨rfl,rfl⟩
    try simp only [an,aq,au]
    refine af.bD (.p rfl) aa rfl aa rfl rfl ai (show ay _ _ _ _ _ _ from e2 ▸ BY (ak:=cM) (i:=a_ L key) ah) ?_;rintro _ _ ⟨rfl,rfl⟩
    try simp only [an,aq,au]
    refine .quiet (.p rfl) rfl (fun _=>.nilCheck rfl)<|.quiet (.p rfl) rfl (fun _=>.aF gN rfl)<|af.bk rfl aa dO rfl rfl bn ai aT ?_;refine .quiet (.p rfl) rfl (fun _=>.nilCheck rfl)<|.quiet (.p rfl) rfl (fun _=>.aF jA rfl)<|af.bk rfl aa e6 rfl rfl bn ai aT ?_;refine aK.nil<|S.inBlock<|S.cg (A:=fc aJ d b s (L.eraseIdx (a_ L key)) dI) (bs:=bP.wc aJ b s ⟨k,.slice cO L.length cQ,.slice cB L.length cC,mid,M,dU,wf,ok⟩ (.slice cO (L.length - 1) cQ) (.slice cB (L.length - 1) cC) (ak.eraseIdx (a_ L key)) (cM.eraseIdx (a_ L key))) aV (fun m h=>bP.rows _ (uu _ kp) (by rw [Fb];exact uu _ ku) h) ?_;refine S.ej results90 fun w hw=>Holds.end_ hR hw ?_;exact pk ⟨rfl,rfl⟩
  ·have MU:=S2 (x:=(key,set,())) hr q z
   rw [MU] at hR;refine S.region rfl<|O.q 2 rfl<|O.sT 15 rfl (by exact decide_eq_true q) ?_;refine O.op (.g rfl rfl) (.fieldAddr gl rfl)<|O.op (.g rfl rfl) (.loadAt eN rfl (eZ.drop 1) rfl) ?_;refine O.op (.g rfl rfl) (.len rfl underlying22 rfl)<|O.op (.g rfl rfl) (.eql rfl rfl)<|O.aL 19 rfl (by exact decide_eq_false ah) ?_;refine O.q 2 rfl<|O.nil<|S.aP rfl<|S.seq<|S.region rfl<|O.q 2 rfl<|O.sT 43 rfl (by exact decide_eq_true q) ?_;refine O.nil<|S.bC rfl<|S.bB (L:=[0,1,2,4,5,3,6,7]) bx aa ?_;refine af.q 1 rfl<|.quiet (.p rfl) rfl (fun _=>.nilCheck rfl)<|.quiet (.p rfl) rfl (fun _=>.aF gN rfl)<|af.q 1 rfl<|.quiet (.p rfl) rfl (fun _=>.bI isAgg31 aa rfl eZ) ?_;refine af.cr (.p rfl) aa (fun _=>.cK dO aG ai aG) ?_;refine af.oZ (T:=(ag.fP d k cq)) (.p rfl) aa underlying25 dz rfl rfl (show _=(((a_ L key):Nat):Int) by omega) ai p7 (fun Yr OT=>?_);refine af.qR rfl aa dz rfl OT rfl ai ah iY ?_;refine aK.nil (S.inBlock ?_);rw [← Uu (x:=(key,set,())) q];refine S.cg (A:=fc aJ d b s (L.set (a_ L key) (key,set,())) dI) (bs:=bP.pn aJ b s ⟨k,.slice cO L.length cQ,.slice cB L.length cC,mid,M,dU,wf,ok⟩ (L.set (a_ L key) (key,set,()))) aV (fun m h=>⟨_,h⟩) ?_;refine S.ej results90 fun w hw=>Holds.end_ hR hw ?_;exact pk ⟨rfl,rfl⟩
 ·by_cases z:set.length=0
  ·rw [S1 (x:=(key,set,())) hr q z] at hR
   refine S.region rfl<|O.q 2 rfl<|O.aL 15 rfl (by exact decide_eq_false q) ?_;refine O.q 6 rfl<|O.nil<|S.aP rfl<|S.seq<|S.region rfl<|O.q 2 rfl<|O.aL 43 rfl (by exact decide_eq_false q) ?_;refine O.nil<|S.aP rfl<|S.seq<|S.region rfl<|O.op (.p rfl) (.fieldAddr gl rfl)<|O.op (.p rfl) (.loadAt eN rfl (eZ.drop 1) rfl) ?_;refine O.op (.p rfl) (.len rfl underlying22 rfl)<|O.op (.p rfl) (.gtr rfl rfl)<|O.aL 56 rfl (by exact decide_eq_false ah) ?_;refine O.q 1 rfl<|O.nil<|S.aP rfl<|S.skip<|S.inBlock<|S.cg (A:=fc aJ d b s L dI) (bs:=bP.pn aJ b s ⟨k,.slice cO L.length cQ,.slice cB L.length cC,mid,M,dU,wf,ok⟩ L) aV (fun m h=>⟨_,h⟩) ?_;refine S.ej results90 fun w hw=>Holds.end_ hR hw ?_;exact pk ⟨rfl,rfl⟩
  ·rw [S0 (x:=(key,set,())) hr q z] at hR
   refine S.toCells (T:=ag.fP d k cq) (K:=2) rfl ai fun ak kp=>?_;refine S.toCells (T:=ag.str) (K:=1) rfl ai fun cM ku=>?_;have e1:ak.length=L.length:=kp.length;have e2:cM.length=L.length:=by rw [ku.length,List.length_map]
   refine S.region rfl<|O.q 2 rfl<|O.aL 15 rfl (by exact decide_eq_false q) ?_;refine O.q 6 rfl<|O.nil<|S.aP rfl<|S.seq<|S.region rfl<|O.q 2 rfl<|O.aL 43 rfl (by exact decide_eq_false q) ?_;refine O.nil<|S.aP rfl<|S.seq<|S.region rfl<|O.op (.p rfl) (.fieldAddr gl rfl)<|O.op (.p rfl) (.loadAt eN rfl (eZ.drop 1) rfl) ?_;refine O.op (.p rfl) (.len rfl underlying22 rfl)<|O.op (.p rfl) (.gtr rfl rfl)<|O.sT 56 rfl (by exact decide_eq_true ah) ?_;refine O.q 1 rfl<|O.nil<|S.bC rfl<|S.bB (L:=[0,1,2,3,4,6,7,10,11,12,14,15,16,5,8,9,13,17,18,19,20,21,22,23,24,25]) bx aa ?_;refine af.q 3 rfl<|.quiet (.p rfl) rfl (fun _=>.nilCheck rfl)<|.quiet (.p rfl) rfl (fun _=>.aF gN rfl)<|af.q 1 rfl<|.quiet (.p rfl) rfl (fun _=>.bI isAgg31 aa rfl eZ) ?_;refine af.q 1 rfl<|.quiet (.p rfl) rfl (fun _=>.nilCheck rfl)<|.quiet (.p rfl) rfl (fun _=>.aF jA rfl)<|af.q 1 rfl<|.quiet (.p rfl) rfl (fun _=>.fieldAddr eB rfl)<|.quiet (.p rfl) rfl (fun _=>.loadAt bV rfl eZ rfl) ?_;refine af.Bj 5 8 13 [8,9,13,17,18,19,20,21,22,23,24,25] [5,9,13,17,18,19,20,21,22,23,24,25] [5,8,9,17,18,19,20,21,22,23,24,25] aa rfl rfl rfl ?_ ?_ ?_
   ·refine bO.cr (.p rfl) aa (fun _=>.cK dO aG ai aG) ?_
    refine af.eW 8 13 [9,13,17,18,19,20,21,22,23,24,25] [8,9,17,18,19,20,21,22,23,24,25] aa rfl rfl ?_ ?_
    ·refine bO.iQ (.p rfl) aa underlying25 kV rfl rfl rfl zE rfl (fun kG=>?_)
     refine af.eW 9 13 [13,17,18,19,20,21,22,23,24,25] [9,17,18,19,20,21,22,23,24,25] aa rfl rfl ?_ ?_
     ·refine bO.eL (.p rfl) aa rfl aa rfl rfl (bs:=[av (ag.cells 2) 31 (.slice cO L.length cQ) ak,obj kG 31 [.string (str key),.slice a set.length c]]) aV (show ay _ _ _ _ _ _ from e1 ▸ rP (ak:=ak) (i:=a_ L key) ah ah rfl p8) ?_
      rintro _ _ ⟨a66,jV,rfl,rfl⟩
      try simp only [an,aq,au]
      refine af.eW 13 17 [17,18,19,20,21,22,23,24,25] [13,18,19,20,21,22,23,24,25] aa rfl rfl ?_ ?_
      ·refine bO.cr (.p rfl) aa (fun _=>.cK e6 aG ai aG) ?_
       refine af.aC (.p rfl) aa rfl aa rfl rfl ((om hH hK ah)) ?_;rintro _ _ ⟨rfl,rfl⟩
       try simp only [an,aq,au]
       refine af.iQ (.p rfl) aa underlying53 iG rfl rfl rfl zE rfl (fun iA=>?_);refine af.eL (.p rfl) aa rfl aa rfl rfl (bs:=[av (ag.cells 1) 9 (.slice cB L.length cC) cM,obj iA 9 [.string (str (bT key))]]) aV (show ay _ _ _ _ _ _ from e2 ▸ n_ (ak:=cM) (i:=a_ L key) ah ah rfl mO) ?_;rintro _ _ ⟨a76,iF,rfl,rfl⟩
       try simp only [an,aq,au]
       refine .quiet (.p rfl) rfl (fun _=>.nilCheck rfl)<|.quiet (.p rfl) rfl (fun _=>.aF gN rfl)<|af.bk rfl aa dO rfl rfl bn ai aT ?_;refine .quiet (.p rfl) rfl (fun _=>.nilCheck rfl)<|.quiet (.p rfl) rfl (fun _=>.aF jA rfl)<|af.bk rfl aa e6 rfl rfl bn ai aT ?_;refine aK.nil<|S.inBlock<|S.cg (A:=fc aJ d b s (L.take (a_ L key)++[(key,set,())]++L.drop (a_ L key)) dI) (bs:=bP.wc aJ b s ⟨k,.slice cO L.length cQ,.slice cB L.length cC,mid,M,dU,wf,ok⟩ (.slice a66 (L.length+1) jV) (.slice a76 (L.length+1) iF) (ak.take (a_ L key)++[[.string (str key),.slice a set.length c]]++ak.drop (a_ L key)) (cM.take (a_ L key)++[[.string (str (bT key))]]++cM.drop (a_ L key))) aV (fun m h=>bP.rows _ (hM _ kp iY) (by rw [oq];exact hM _ ku ⟨rfl,by rw [lp];decide⟩) h) ?_;refine S.ej results90 fun w hw=>Holds.end_ hR hw ?_;exact pk ⟨rfl,rfl⟩
      ·refine bO.aC (.p rfl) aa rfl aa rfl rfl ((om hH hK ah)) ?_
       rintro _ _ ⟨rfl,rfl⟩
       try simp only [an,aq,au]
       refine af.eW 13 18 [18,19,20,21,22,23,24,25] [13,19,20,21,22,23,24,25] aa rfl rfl ?_ ?_
       ·refine bO.cr (.p rfl) aa (fun _=>.cK e6 aG ai aG) ?_
        refine af.iQ (.p rfl) aa underlying53 iG rfl rfl rfl zE rfl (fun iA=>?_);refine af.eL (.p rfl) aa rfl aa rfl rfl (bs:=[av (ag.cells 1) 9 (.slice cB L.length cC) cM,obj iA 9 [.string (str (bT key))]]) aV (show ay _ _ _ _ _ _ from e2 ▸ n_ (ak:=cM) (i:=a_ L key) ah ah rfl mO) ?_;rintro _ _ ⟨a76,iF,rfl,rfl⟩
        try simp only [an,aq,au]
        refine .quiet (.p rfl) rfl (fun _=>.nilCheck rfl)<|.quiet (.p rfl) rfl (fun _=>.aF gN rfl)<|af.bk rfl aa dO rfl rfl bn ai aT ?_;refine .quiet (.p rfl) rfl (fun _=>.nilCheck rfl)<|.quiet (.p rfl) rfl (fun _=>.aF jA rfl)<|af.bk rfl aa e6 rfl rfl bn ai aT ?_;refine aK.nil<|S.inBlock<|S.cg (A:=fc aJ d b s (L.take (a_ L key)++[(key,set,())]++L.drop (a_ L key)) dI) (bs:=bP.wc aJ b s ⟨k,.slice cO L.length cQ,.slice cB L.length cC,mid,M,dU,wf,ok⟩ (.slice a66 (L.length+1) jV) (.slice a76 (L.length+1) iF) (ak.take (a_ L key)++[[.string (str key),.slice a set.length c]]++ak.drop (a_ L key)) (cM.take (a_ L key)++[[.string (str (bT key))]]++cM.drop (a_ L key))) aV (fun m h=>bP.rows _ (hM _ kp iY) (by rw [oq];exact hM _ ku ⟨rfl,by rw [lp];decide⟩) h) ?_;refine S.ej results90 fun w hw=>Holds.end_ hR hw ?_;exact pk ⟨rfl,rfl⟩
       ·refine bO.iQ (.p rfl) aa underlying53 iG rfl rfl rfl zE rfl (fun iA=>?_)
        refine af.cr (.p rfl) aa (fun _=>.cK e6 aG ai aG) ?_;refine af.eL (.p rfl) aa rfl aa rfl rfl (bs:=[av (ag.cells 1) 9 (.slice cB L.length cC) cM,obj iA 9 [.string (str (bT key))]]) aV (show ay _ _ _ _ _ _ from e2 ▸ n_ (ak:=cM) (i:=a_ L key) ah ah rfl mO) ?_;rintro _ _ ⟨a76,iF,rfl,rfl⟩
        try simp only [an,aq,au]
        refine .quiet (.p rfl) rfl (fun _=>.nilCheck rfl)<|.quiet (.p rfl) rfl (fun _=>.aF gN rfl)<|af.bk rfl aa dO rfl rfl bn ai aT ?_;refine .quiet (.p rfl) rfl (fun _=>.nilCheck rfl)<|.quiet (.p rfl) rfl (fun _=>.aF jA rfl)<|af.bk rfl aa e6 rfl rfl bn ai aT ?_;refine aK.nil<|S.inBlock<|S.cg (A:=fc aJ d b s (L.take (a_ L key)++[(key,set,())]++L.drop (a_ L key)) dI) (bs:=bP.wc aJ b s ⟨k,.slice cO L.length cQ,.slice cB L.length cC,mid,M,dU,wf,ok⟩ (.slice a66 (L.length+1) jV) (.slice a76 (L.length+1) iF) (ak.take (a_ L key)++[[.string (str key),.slice a set.length c]]++ak.drop (a_ L key)) (cM.take (a_ L key)++[[.string (str (bT key))]]++cM.drop (a_ L key))) aV (fun m h=>bP.rows _ (hM _ kp iY) (by rw [oq];exact hM _ ku ⟨rfl,by rw [lp];decide⟩) h) ?_;refine S.ej results90 fun w hw=>Holds.end_ hR hw ?_;exact pk ⟨rfl,rfl⟩
     ·refine bO.cr (.p rfl) aa (fun _=>.cK e6 aG ai aG) ?_
      refine af.eL (.p rfl) aa rfl aa rfl rfl (bs:=[av (ag.cells 2) 31 (.slice cO L.length cQ) ak,obj kG 31 [.string (str key),.slice a set.length c]]) aV (show ay _ _ _ _ _ _ from e1 ▸ rP (ak:=ak) (i:=a_ L key) ah ah rfl p8) ?_;rintro _ _ ⟨a66,jV,rfl,rfl⟩
      try simp only [an,aq,au]
      refine af.aC (.p rfl) aa rfl aa rfl rfl ((om hH hK ah)) ?_;rintro _ _ ⟨rfl,rfl⟩
      try simp only [an,aq,au]
      refine af.iQ (.p rfl) aa underlying53 iG rfl rfl rfl zE rfl (fun iA=>?_);refine af.eL (.p rfl) aa rfl aa rfl rfl (bs:=[av (ag.cells 1) 9 (.slice cB L.length cC) cM,obj iA 9 [.string (str (bT key))]]) aV (show ay _ _ _ _ _ _ from e2 ▸ n_ (ak:=cM) (i:=a_ L key) ah ah rfl mO) ?_;rintro _ _ ⟨a76,iF,rfl,rfl⟩
      try simp only [an,aq,au]
      refine .quiet (.p rfl) rfl (fun _=>.nilCheck rfl)<|.quiet (.p rfl) rfl (fun _=>.aF gN rfl)<|af.bk rfl aa dO rfl rfl bn ai aT ?_;refine .quiet (.p rfl) rfl (fun _=>.nilCheck rfl)<|.quiet (.p rfl) rfl (fun _=>.aF jA rfl)<|af.bk rfl aa e6 rfl rfl bn ai aT ?_;refine aK.nil<|S.inBlock<|S.cg (A:=fc aJ d b s (L.take (a_ L key)++[(key,set,())]++L.drop (a_ L key)) dI) (bs:=bP.wc aJ b s ⟨k,.slice cO L.length cQ,.slice cB L.length cC,mid,M,dU,wf,ok⟩ (.slice a66 (L.length+1) jV) (.slice a76 (L.length+1) iF) (ak.take (a_ L key)++[[.string (str key),.slice a set.length c]]++ak.drop (a_ L key)) (cM.take (a_ L key)++[[.string (str (bT key))]]++cM.drop (a_ L key))) aV (fun m h=>bP.rows _ (hM _ kp iY) (by rw [oq];exact hM _ ku ⟨rfl,by rw [lp];decide⟩) h) ?_;refine S.ej results90 fun w hw=>Holds.end_ hR hw ?_;exact pk ⟨rfl,rfl⟩
    ·refine bO.cr (.p rfl) aa (fun _=>.cK e6 aG ai aG) ?_
     refine af.iQ (.p rfl) aa underlying25 kV rfl rfl rfl zE rfl (fun kG=>?_);refine af.eL (.p rfl) aa rfl aa rfl rfl (bs:=[av (ag.cells 2) 31 (.slice cO L.length cQ) ak,obj kG 31 [.string (str key),.slice a set.length c]]) aV (show ay _ _ _ _ _ _ from e1 ▸ rP (ak:=ak) (i:=a_ L key) ah ah rfl p8) ?_;rintro _ _ ⟨a66,jV,rfl,rfl⟩
     try simp only [an,aq,au]
     refine af.aC (.p rfl) aa rfl aa rfl rfl ((om hH hK ah)) ?_;rintro _ _ ⟨rfl,rfl⟩
     try simp only [an,aq,au]
     refine af.iQ (.p rfl) aa underlying53 iG rfl rfl rfl zE rfl (fun iA=>?_);refine af.eL (.p rfl) aa rfl aa rfl rfl (bs:=[av (ag.cells 1) 9 (.slice cB L.length cC) cM,obj iA 9 [.string (str (bT key))]]) aV (show ay _ _ _ _ _ _ from e2 ▸ n_ (ak:=cM) (i:=a_ L key) ah ah rfl mO) ?_;rintro _ _ ⟨a76,iF,rfl,rfl⟩
     try simp only [an,aq,au]
     refine .quiet (.p rfl) rfl (fun _=>.nilCheck rfl)<|.quiet (.p rfl) rfl (fun _=>.aF gN rfl)<|af.bk rfl aa dO rfl rfl bn ai aT ?_;refine .quiet (.p rfl) rfl (fun _=>.nilCheck rfl)<|.quiet (.p rfl) rfl (fun _=>.aF jA rfl)<|af.bk rfl aa e6 rfl rfl bn ai aT ?_;refine aK.nil<|S.inBlock<|S.cg (A:=fc aJ d b s (L.take (a_ L key)++[(key,set,())]++L.drop (a_ L key)) dI) (bs:=bP.wc aJ b s ⟨k,.slice cO L.length cQ,.slice cB L.length cC,mid,M,dU,wf,ok⟩ (.slice a66 (L.length+1) jV) (.slice a76 (L.length+1) iF) (ak.take (a_ L key)++[[.string (str key),.slice a set.length c]]++ak.drop (a_ L key)) (cM.take (a_ L key)++[[.string (str (bT key))]]++cM.drop (a_ L key))) aV (fun m h=>bP.rows _ (hM _ kp iY) (by rw [oq];exact hM _ ku ⟨rfl,by rw [lp];decide⟩) h) ?_;refine S.ej results90 fun w hw=>Holds.end_ hR hw ?_;exact pk ⟨rfl,rfl⟩
   ·refine bO.iQ (.p rfl) aa underlying25 kV rfl rfl rfl zE rfl (fun kG=>?_)
    refine af.eW 5 13 [9,13,17,18,19,20,21,22,23,24,25] [5,9,17,18,19,20,21,22,23,24,25] aa rfl rfl ?_ ?_
    ·refine bO.cr (.p rfl) aa (fun _=>.cK dO aG ai aG) ?_
     refine af.eW 9 13 [13,17,18,19,20,21,22,23,24,25] [9,17,18,19,20,21,22,23,24,25] aa rfl rfl ?_ ?_
     ·refine bO.eL (.p rfl) aa rfl aa rfl rfl (bs:=[av (ag.cells 2) 31 (.slice cO L.length cQ) ak,obj kG 31 [.string (str key),.slice a set.length c]]) aV (show ay _ _ _ _ _ _ from e1 ▸ rP (ak:=ak) (i:=a_ L key) ah ah rfl p8) ?_
      rintro _ _ ⟨a66,jV,rfl,rfl⟩
      try simp only [an,aq,au]
      refine af.eW 13 17 [17,18,19,20,21,22,23,24,25] [13,18,19,20,21,22,23,24,25] aa rfl rfl ?_ ?_
      ·refine bO.cr (.p rfl) aa (fun _=>.cK e6 aG ai aG) ?_
       refine af.aC (.p rfl) aa rfl aa rfl rfl ((om hH hK ah)) ?_;rintro _ _ ⟨rfl,rfl⟩
       try simp only [an,aq,au]
       refine af.iQ (.p rfl) aa underlying53 iG rfl rfl rfl zE rfl (fun iA=>?_);refine af.eL (.p rfl) aa rfl aa rfl rfl (bs:=[av (ag.cells 1) 9 (.slice cB L.length cC) cM,obj iA 9 [.string (str (bT key))]]) aV (show ay _ _ _ _ _ _ from e2 ▸ n_ (ak:=cM) (i:=a_ L key) ah ah rfl mO) ?_;rintro _ _ ⟨a76,iF,rfl,rfl⟩
       try simp only [an,aq,au]
       refine .quiet (.p rfl) rfl (fun _=>.nilCheck rfl)<|.quiet (.p rfl) rfl (fun _=>.aF gN rfl)<|af.bk rfl aa dO rfl rfl bn ai aT ?_;refine .quiet (.p rfl) rfl (fun _=>.nilCheck rfl)<|.quiet (.p rfl) rfl (fun _=>.aF jA rfl)<|af.bk rfl aa e6 rfl rfl bn ai aT ?_;refine aK.nil<|S.inBlock<|S.cg (A:=fc aJ d b s (L.take (a_ L key)++[(key,set,())]++L.drop (a_ L key)) dI) (bs:=bP.wc aJ b s ⟨k,.slice cO L.length cQ,.slice cB L.length cC,mid,M,dU,wf,ok⟩ (.slice a66 (L.length+1) jV) (.slice a76 (L.length+1) iF) (ak.take (a_ L key)++[[.string (str key),.slice a set.length c]]++ak.drop (a_ L key)) (cM.take (a_ L key)++[[.string (str (bT key))]]++cM.drop (a_ L key))) aV (fun m h=>bP.rows _ (hM _ kp iY) (by rw [oq];exact hM _ ku ⟨rfl,by rw [lp];decide⟩) h) ?_;refine S.ej results90 fun w hw=>Holds.end_ hR hw ?_;exact pk ⟨rfl,rfl⟩
      ·refine bO.aC (.p rfl) aa rfl aa rfl rfl ((om hH hK ah)) ?_
       rintro _ _ ⟨rfl,rfl⟩
       try simp only [an,aq,au]
       refine af.eW 13 18 [18,19,20,21,22,23,24,25] [13,19,20,21,22,23,24,25] aa rfl rfl ?_ ?_
       ·refine bO.cr (.p rfl) aa (fun _=>.cK e6 aG ai aG) ?_
        refine af.iQ (.p rfl) aa underlying53 iG rfl rfl rfl zE rfl (fun iA=>?_);refine af.eL (.p rfl) aa rfl aa rfl rfl (bs:=[av (ag.cells 1) 9 (.slice cB L.length cC) cM,obj iA 9 [.string (str (bT key))]]) aV (show ay _ _ _ _ _ _ from e2 ▸ n_ (ak:=cM) (i:=a_ L key) ah ah rfl mO) ?_;rintro _ _ ⟨a76,iF,rfl,rfl⟩
        try simp only [an,aq,au]
        refine .quiet (.p rfl) rfl (fun _=>.nilCheck rfl)<|.quiet (.p rfl) rfl (fun _=>.aF gN rfl)<|af.bk rfl aa dO rfl rfl bn ai aT ?_;refine .quiet (.p rfl) rfl (fun _=>.nilCheck rfl)<|.quiet (.p rfl) rfl (fun _=>.aF jA rfl)<|af.bk rfl aa e6 rfl rfl bn ai aT ?_;refine aK.nil<|S.inBlock<|S.cg (A:=fc aJ d b s (L.take (a_ L key)++[(key,set,())]++L.drop (a_ L key)) dI) (bs:=bP.wc aJ b s ⟨k,.slice cO L.length cQ,.slice cB L.length cC,mid,M,dU,wf,ok⟩ (.slice a66 (L.length+1) jV) (.slice a76 (L.length+1) iF) (ak.take (a_ L key)++[[.string (str key),.slice a set.length c]]++ak.drop (a_ L key)) (cM.take (a_ L key)++[[.string (str (bT key))]]++cM.drop (a_ L key))) aV (fun m h=>bP.rows _ (hM _ kp iY) (by rw [oq];exact hM _ ku ⟨rfl,by rw [lp];decide⟩) h) ?_;refine S.ej results90 fun w hw=>Holds.end_ hR hw ?_;exact pk ⟨rfl,rfl⟩
       ·refine bO.iQ (.p rfl) aa underlying53 iG rfl rfl rfl zE rfl (fun iA=>?_)
        refine af.cr (.p rfl) aa (fun _=>.cK e6 aG ai aG) ?_;refine af.eL (.p rfl) aa rfl aa rfl rfl (bs:=[av (ag.cells 1) 9 (.slice cB L.length cC) cM,obj iA 9 [.string (str (bT key))]]) aV (show ay _ _ _ _ _ _ from e2 ▸ n_ (ak:=cM) (i:=a_ L key) ah ah rfl mO) ?_;rintro _ _ ⟨a76,iF,rfl,rfl⟩
        try simp only [an,aq,au]
        refine .quiet (.p rfl) rfl (fun _=>.nilCheck rfl)<|.quiet (.p rfl) rfl (fun _=>.aF gN rfl)<|af.bk rfl aa dO rfl rfl bn ai aT ?_;refine .quiet (.p rfl) rfl (fun _=>.nilCheck rfl)<|.quiet (.p rfl) rfl (fun _=>.aF jA rfl)<|af.bk rfl aa e6 rfl rfl bn ai aT ?_;refine aK.nil<|S.inBlock<|S.cg (A:=fc aJ d b s (L.take (a_ L key)++[(key,set,())]++L.drop (a_ L key)) dI) (bs:=bP.wc aJ b s ⟨k,.slice cO L.length cQ,.slice cB L.length cC,mid,M,dU,wf,ok⟩ (.slice a66 (L.length+1) jV) (.slice a76 (L.length+1) iF) (ak.take (a_ L key)++[[.string (str key),.slice a set.length c]]++ak.drop (a_ L key)) (cM.take (a_ L key)++[[.string (str (bT key))]]++cM.drop (a_ L key))) aV (fun m h=>bP.rows _ (hM _ kp iY) (by rw [oq];exact hM _ ku ⟨rfl,by rw [lp];decide⟩) h) ?_;refine S.ej results90 fun w hw=>Holds.end_ hR hw ?_;exact pk ⟨rfl,rfl⟩
     ·refine bO.cr (.p rfl) aa (fun _=>.cK e6 aG ai aG) ?_
      refine af.eL (.p rfl) aa rfl aa rfl rfl (bs:=[av (ag.cells 2) 31 (.slice cO L.length cQ) ak,obj kG 31 [.string (str key),.slice a set.length c]]) aV (show ay _ _ _ _ _ _ from e1 ▸ rP (ak:=ak) (i:=a_ L key) ah ah rfl p8) ?_;rintro _ _ ⟨a66,jV,rfl,rfl⟩
      try simp only [an,aq,au]
      refine af.aC (.p rfl) aa rfl aa rfl rfl ((om hH hK ah)) ?_;rintro _ _ ⟨rfl,rfl⟩
      try simp only [an,aq,au]
      refine af.iQ (.p rfl) aa underlying53 iG rfl rfl rfl zE rfl (fun iA=>?_);refine af.eL (.p rfl) aa rfl aa rfl rfl (bs:=[av (ag.cells 1) 9 (.slice cB L.length cC) cM,obj iA 9 [.string (str (bT key))]]) aV (show ay _ _ _ _ _ _ from e2 ▸ n_ (ak:=cM) (i:=a_ L key) ah ah rfl mO) ?_;rintro _ _ ⟨a76,iF,rfl,rfl⟩
      try simp only [an,aq,au]
      refine .quiet (.p rfl) rfl (fun _=>.nilCheck rfl)<|.quiet (.p rfl) rfl (fun _=>.aF gN rfl)<|af.bk rfl aa dO rfl rfl bn ai aT ?_;refine .quiet (.p rfl) rfl (fun _=>.nilCheck rfl)<|.quiet (.p rfl) rfl (fun _=>.aF jA rfl)<|af.bk rfl aa e6 rfl rfl bn ai aT ?_;refine aK.nil<|S.inBlock<|S.cg (A:=fc aJ d b s (L.take (a_ L key)++[(key,set,())]++L.drop (a_ L key)) dI) (bs:=bP.wc aJ b s ⟨k,.slice cO L.length cQ,.slice cB L.length cC,mid,M,dU,wf,ok⟩ (.slice a66 (L.length+1) jV) (.slice a76 (L.length+1) iF) (ak.take (a_ L key)++[[.string (str key),.slice a set.length c]]++ak.drop (a_ L key)) (cM.take (a_ L key)++[[.string (str (bT key))]]++cM.drop (a_ L key))) aV (fun m h=>bP.rows _ (hM _ kp iY) (by rw [oq];exact hM _ ku ⟨rfl,by rw [lp];decide⟩) h) ?_;refine S.ej results90 fun w hw=>Holds.end_ hR hw ?_;exact pk ⟨rfl,rfl⟩
    ·refine bO.cr (.p rfl) aa (fun _=>.cK e6 aG ai aG) ?_
     refine af.cr (.p rfl) aa (fun _=>.cK dO aG ai aG) ?_;refine af.eL (.p rfl) aa rfl aa rfl rfl (bs:=[av (ag.cells 2) 31 (.slice cO L.length cQ) ak,obj kG 31 [.string (str key),.slice a set.length c]]) aV (show ay _ _ _ _ _ _ from e1 ▸ rP (ak:=ak) (i:=a_ L key) ah ah rfl p8) ?_;rintro _ _ ⟨a66,jV,rfl,rfl⟩
     try simp only [an,aq,au]
     refine af.aC (.p rfl) aa rfl aa rfl rfl ((om hH hK ah)) ?_;rintro _ _ ⟨rfl,rfl⟩
     try simp only [an,aq,au]
     refine af.iQ (.p rfl) aa underlying53 iG rfl rfl rfl zE rfl (fun iA=>?_);refine af.eL (.p rfl) aa rfl aa rfl rfl (bs:=[av (ag.cells 1) 9 (.slice cB L.length cC) cM,obj iA 9 [.string (str (bT key))]]) aV (show ay _ _ _ _ _ _ from e2 ▸ n_ (ak:=cM) (i:=a_ L key) ah ah rfl mO) ?_;rintro _ _ ⟨a76,iF,rfl,rfl⟩
     try simp only [an,aq,au]
     refine .quiet (.p rfl) rfl (fun _=>.nilCheck rfl)<|.quiet (.p rfl) rfl (fun _=>.aF gN rfl)<|af.bk rfl aa dO rfl rfl bn ai aT ?_;refine .quiet (.p rfl) rfl (fun _=>.nilCheck rfl)<|.quiet (.p rfl) rfl (fun _=>.aF jA rfl)<|af.bk rfl aa e6 rfl rfl bn ai aT ?_;refine aK.nil<|S.inBlock<|S.cg (A:=fc aJ d b s (L.take (a_ L key)++[(key,set,())]++L.drop (a_ L key)) dI) (bs:=bP.wc aJ b s ⟨k,.slice cO L.length cQ,.slice cB L.length cC,mid,M,dU,wf,ok⟩ (.slice a66 (L.length+1) jV) (.slice a76 (L.length+1) iF) (ak.take (a_ L key)++[[.string (str key),.slice a set.length c]]++ak.drop (a_ L key)) (cM.take (a_ L key)++[[.string (str (bT key))]]++cM.drop (a_ L key))) aV (fun m h=>bP.rows _ (hM _ kp iY) (by rw [oq];exact hM _ ku ⟨rfl,by rw [lp];decide⟩) h) ?_;refine S.ej results90 fun w hw=>Holds.end_ hR hw ?_;exact pk ⟨rfl,rfl⟩
   ·refine bO.cr (.p rfl) aa (fun _=>.cK e6 aG ai aG) ?_
    refine af.eW 5 8 [8,9,17,18,19,20,21,22,23,24,25] [5,9,17,18,19,20,21,22,23,24,25] aa rfl rfl ?_ ?_
    ·refine bO.cr (.p rfl) aa (fun _=>.cK dO aG ai aG) ?_
     refine af.iQ (.p rfl) aa underlying25 kV rfl rfl rfl zE rfl (fun kG=>?_);refine af.eL (.p rfl) aa rfl aa rfl rfl (bs:=[av (ag.cells 2) 31 (.slice cO L.length cQ) ak,obj kG 31 [.string (str key),.slice a set.length c]]) aV (show ay _ _ _ _ _ _ from e1 ▸ rP (ak:=ak) (i:=a_ L key) ah ah rfl p8) ?_;rintro _ _ ⟨a66,jV,rfl,rfl⟩
     try simp only [an,aq,au]
     refine af.aC (.p rfl) aa rfl aa rfl rfl ((om hH hK ah)) ?_;rintro _ _ ⟨rfl,rfl⟩
     try simp only [an,aq,au]
     refine af.iQ (.p rfl) aa underlying53 iG rfl rfl rfl zE rfl (fun iA=>?_);refine af.eL (.p rfl) aa rfl aa rfl rfl (bs:=[av (ag.cells 1) 9 (.slice cB L.length cC) cM,obj iA 9 [.string (str (bT key))]]) aV (show ay _ _ _ _ _ _ from e2 ▸ n_ (ak:=cM) (i:=a_ L key) ah ah rfl mO) ?_;rintro _ _ ⟨a76,iF,rfl,rfl⟩
     try simp only [an,aq,au]
     refine .quiet (.p rfl) rfl (fun _=>.nilCheck rfl)<|.quiet (.p rfl) rfl (fun _=>.aF gN rfl)<|af.bk rfl aa dO rfl rfl bn ai aT ?_;refine .quiet (.p rfl) rfl (fun _=>.nilCheck rfl)<|.quiet (.p rfl) rfl (fun _=>.aF jA rfl)<|af.bk rfl aa e6 rfl rfl bn ai aT ?_;refine aK.nil<|S.inBlock<|S.cg (A:=fc aJ d b s (L.take (a_ L key)++[(key,set,())]++L.drop (a_ L key)) dI) (bs:=bP.wc aJ b s ⟨k,.slice cO L.length cQ,.slice cB L.length cC,mid,M,dU,wf,ok⟩ (.slice a66 (L.length+1) jV) (.slice a76 (L.length+1) iF) (ak.take (a_ L key)++[[.string (str key),.slice a set.length c]]++ak.drop (a_ L key)) (cM.take (a_ L key)++[[.string (str (bT key))]]++cM.drop (a_ L key))) aV (fun m h=>bP.rows _ (hM _ kp iY) (by rw [oq];exact hM _ ku ⟨rfl,by rw [lp];decide⟩) h) ?_;refine S.ej results90 fun w hw=>Holds.end_ hR hw ?_;exact pk ⟨rfl,rfl⟩
    ·refine bO.iQ (.p rfl) aa underlying25 kV rfl rfl rfl zE rfl (fun kG=>?_)
     refine af.cr (.p rfl) aa (fun _=>.cK dO aG ai aG) ?_;refine af.eL (.p rfl) aa rfl aa rfl rfl (bs:=[av (ag.cells 2) 31 (.slice cO L.length cQ) ak,obj kG 31 [.string (str key),.slice a set.length c]]) aV (show ay _ _ _ _ _ _ from e1 ▸ rP (ak:=ak) (i:=a_ L key) ah ah rfl p8) ?_;rintro _ _ ⟨a66,jV,rfl,rfl⟩
     try simp only [an,aq,au]
     refine af.aC (.p rfl) aa rfl aa rfl rfl ((om hH hK ah)) ?_;rintro _ _ ⟨rfl,rfl⟩
     try simp only [an,aq,au]
     refine af.iQ (.p rfl) aa underlying53 iG rfl rfl rfl zE rfl (fun iA=>?_);refine af.eL (.p rfl) aa rfl aa rfl rfl (bs:=[av (ag.cells 1) 9 (.slice cB L.length cC) cM,obj iA 9 [.string (str (bT key))]]) aV (show ay _ _ _ _ _ _ from e2 ▸ n_ (ak:=cM) (i:=a_ L key) ah ah rfl mO) ?_;rintro _ _ ⟨a76,iF,rfl,rfl⟩
     try simp only [an,aq,au]
     refine .quiet (.p rfl) rfl (fun _=>.nilCheck rfl)<|.quiet (.p rfl) rfl (fun _=>.aF gN rfl)<|af.bk rfl aa dO rfl rfl bn ai aT ?_;refine .quiet (.p rfl) rfl (fun _=>.nilCheck rfl)<|.quiet (.p rfl) rfl (fun _=>.aF jA rfl)<|af.bk rfl aa e6 rfl rfl bn ai aT ?_;refine aK.nil<|S.inBlock<|S.cg (A:=fc aJ d b s (L.take (a_ L key)++[(key,set,())]++L.drop (a_ L key)) dI) (bs:=bP.wc aJ b s ⟨k,.slice cO L.length cQ,.slice cB L.length cC,mid,M,dU,wf,ok⟩ (.slice a66 (L.length+1) jV) (.slice a76 (L.length+1) iF) (ak.take (a_ L key)++[[.string (str key),.slice a set.length c]]++ak.drop (a_ L key)) (cM.take (a_ L key)++[[.string (str (bT key))]]++cM.drop (a_ L key))) aV (fun m h=>bP.rows _ (hM _ kp iY) (by rw [oq];exact hM _ ku ⟨rfl,by rw [lp];decide⟩) h) ?_;refine S.ej results90 fun w hw=>Holds.end_ hR hw ?_;exact pk ⟨rfl,rfl⟩
theorem U8 {d:Fr} {b s:Nat} {L:List aH} {m:Fr} (h:Sat [bp aJ d b s L] m):fc aJ d b s L L m:=by
 obtain ⟨m1,_,_,s1,_,o,_⟩:=h;obtain ⟨x,hx⟩:=bp.z o;exact ⟨x,Sat.mono s1 hx⟩
theorem Af {s:Nat}:∀ {l:List aH} {i:Nat} (hi:i<l.length),(∀ x∈l.take i,tI s x)→mG s l[i]≠0→jo s l=mG s l[i]
 |x::l,0,_,_,ne=>by unfold jo;rw [if_neg (by simpa using ne)];rfl
 |x::l,i+1,hi,h,ne=>by
  have h0:mG s x=0:=Et.2 (h x bq);have:jo s (x::l)=jo s l:=by
   show (if mG s x=0 then jo s l else mG s x)=jo s l
   rw [if_pos h0]
  rw [this];exact Af (l:=l) (i:=i) (by simpa using hi) (fun y hy=>h y (by simp [hy])) (by simpa using ne)
theorem Ky {α:Type} {P:α→Prop} {l:List α} {i:Nat} (hi:i<l.length) (h:∀ x∈l.take i,P x) (hp:P l[i]):∀ x∈l.take (i+1),P x:=fun x hx=>by
 rw [List.take_succ_eq_append_getElem hi] at hx
 rcases List.mem_append.1 hx with q|q
 ·exact h x q
 ·rw [List.mem_singleton.1 q];exact hp
theorem Ew:∀ (l L:List aH),(fW L l).length≤L.length+l.length
 |[],L=>Nat.le_refl _
 |x::l,L=>by
  have h1:=Ew l (gF L x);have h2:=SX L x;have e:fW L (x::l)=fW (gF L x) l:=rfl;rw [e,List.length_cons];omega
theorem JD {N:Nat}:∀ (l L:List aH),(∀ z∈L,z.2.1.length≤N)→(∀ z∈l,z.2.1.length≤N)→∀ z∈fW L l,z.2.1.length≤N
 |[],_,h,_=>h
 |x::l,L,h,hl=>JD l (gF L x) (SY h (hl x bq)) fun z hz=>hl z (by simp [hz])
theorem Jy {s:Nat} {x:aH} (h:¬ (mC x.1∧o_ x.1=s)):mG s x=22:=by unfold mG;rw [if_pos h]
theorem SV {s:Nat} {x:aH} (h:mC x.1∧o_ x.1=s) (k:¬ ny x.1 x.2.1):mG s x=4:=by unfold mG;rw [if_neg (by simp [h]),if_pos k]
set_option maxHeartbeats 800000 in
theorem Kx {r d:Fr} {b s:Nat} {L l:List aH} {va:Value} (hT:gH r d s L) (ha:aj cq r va l) (hl:L.length+l.length≤10000000) (tj:∀ y∈l,y.2.1.length≤10000000) :
  ay prog 30 #[.pointer (some ⟨b,0,none⟩),va] r [bp aJ d b s L] (aM fun u U=>u=.int .i64 (jo s l)∧U=[bp aJ d b s (if jo s l=0 then fW L l else L)]):=by
 obtain ⟨a1,c1,rfl⟩:=ha.shape;refine ay.of (n:=79) _ rfl func30 rfl rfl rfl fun g hg R hR=>?_;have hT:=hT.mono hg;have ha:=ha.mono hg;refine S.seq<|S.region rfl<|O.q 1 rfl<|O.nil<|S.seq<|S.seq<|S.region rfl<|O.q 1 rfl<|O.cU (.p rfl) rfl aa rfl rfl (bs:=[bp aJ d b s L]) aV (fun m hm hd=>qS (bp.jF hT.hd hd hm)) ?_;rintro _ _ ⟨rfl,rfl⟩
 try simp only [an,aq,au]
 refine O.sT 12 rfl aG ?_;refine O.op (.p rfl) (.not rfl)<|O.nil<|S.aP rfl<|S.skip<|S.seq<|S.seq<|S.region rfl<|O.q 1 rfl<|O.op (.p rfl) (.len rfl underlying25 rfl)<|O.q 1 rfl<|O.nil<|S.block<|S.fT (ι:=Nat) (fun i=>i≤l.length∧∀ x∈l.take i,tI s x) (fun i=>[(16,.int .i64 (i:Int))]) [(0,_),(1,_),(14,_),(15,_)] (fun i=>[bp aJ d b s L]) (fun i=>l.length - i) (0) (by exact ⟨Nat.zero_le _,fun x hx=>by cases hx⟩) (.cons rfl (.nil)) (.cons rfl (.cons rfl (.cons rfl (.cons rfl (.nil))))) rfl fun i hx ih=>?_;have bl:=cW (g:=g);obtain ⟨hx1,hx2⟩:=hx;refine S.seq<|S.region rfl<|O.op (.p rfl) (.lss rfl rfl)<|O.nil (S.seq ?_)
 first|refine S.ct rfl (fun jW=>?_) (fun jW=>?_)|refine S.cm rfl (fun jW=>?_) (fun jW=>?_)
 ·have hi:i<l.length:=by omega
  have C6:=tj _ (List.getElem_mem hi)
  by_cases k1:mC l[i].1
  ·have k0:l[i].1.length≤64:=k1.2
   by_cases k2:o_ l[i].1=s
   ·by_cases aR:ny l[i].1 l[i].2.1
    ·
     refine S.skip<|S.seq<|S.block<|S.seq<|S.region rfl<|O.b_ (.p rfl) underlying25 dz rfl rfl (show _=(((i):Nat):Int) by omega) (by first|assumption|exact aj.mono hg aB|exact aj.left aB|exact aj.left (aj.mono hg aB)) (h:=fun z8 yE lN lR=>?_);obtain ⟨DU,DV,rfl,zo,nk⟩:=cq.sh lR;refine O.op (.p rfl) (.bI isAgg31 aa rfl lN) ?_;refine O.aO (.p rfl) (.alloc (cs:=[.string ⟨#[]⟩,.slice none 0 0]) zeroValue31 rfl) ?_;rintro _ _ ⟨gh,rfl,rfl⟩;refine O.bw rfl (.cZ aa rfl rfl rfl rfl ai aT) ?_;refine O.nil<|S.block<|S.seq<|S.seq<|S.cV ai fun g hs hm h6=>?_;replace hg:=Fr.aI hg hs;replace hR:=bt hR hm
     try replace hT:=hT.mono hs
     try replace ha:=ha.mono hs
     try replace lN:=lN.mono hs
     try replace nk:=nk.mono hs
     try replace lR:=lR.mono hs
     replace bl:=eD bl hm;clear hs hm;refine S.region rfl<|O.op (.p rfl) (.fieldAddr eB rfl)<|O.op (.p rfl) (.loadAt bV rfl h6 rfl) ?_;refine O.aC (.p rfl) rfl aa rfl rfl ((pS ah)) ?_;rintro _ _ ⟨rfl,rfl⟩
     try simp only [an,aq,au]
     refine O.sT 23 rfl (by exact decide_eq_true k1) ?_;refine O.op (.p rfl) (.not rfl)<|O.q 1 rfl<|O.nil<|S.aP rfl<|S.bB (L:=[0,1,3,4,5,2,6,7,8]) bx aa ?_;refine .quiet (.p rfl) rfl (fun _=>.fieldAddr eB rfl)<|.quiet (.p rfl) rfl (fun _=>.loadAt bV rfl h6 rfl) ?_;refine af.q 1 rfl<|.quiet (.p rfl) rfl (fun _=>.nilCheck rfl)<|.quiet (.p rfl) rfl (fun _=>.fieldAddr uF rfl)<|af.eW 2 6 [6,7,8] [2,7,8] aa rfl rfl ?_ ?_
     ·refine bO.aC (.p rfl) aa rfl aa rfl rfl ((r9 hT.hH hT.hK ah)) ?_
      rintro _ _ ⟨rfl,rfl⟩
      try simp only [an,aq,au]
      refine af.cr (.p rfl) aa (fun _=>.sk cv aG ai) ?_;refine .quiet (.p rfl) rfl (fun _=>.neq rfl rfl)<|af.aL 32 rfl (by exact decide_eq_false ah) ?_;refine af.q 1 rfl<|aK.nil<|S.aP rfl<|S.seq<|S.region rfl<|O.op (.p rfl) (.fieldAddr eB rfl)<|O.op (.p rfl) (.loadAt bV rfl h6 rfl) ?_;refine O.op (.p rfl) (.fieldAddr gl rfl)<|O.op (.p rfl) (.loadAt eN rfl (h6.drop 1) rfl) ?_;refine O.aC (.p rfl) rfl aa rfl rfl ((rW nk ah)) ?_;rintro _ _ ⟨rfl,rfl⟩
      try simp only [an,aq,au]
      refine O.sT 38 rfl (by exact decide_eq_true aR) ?_;refine O.op (.p rfl) (.not rfl)<|O.q 1 rfl<|O.nil<|S.aP rfl<|S.skip<|S.inBlock<|S.inBlock<|S.region rfl<|O.op (.p rfl) (.add rfl rfl (IntWalk.i64_in _ ah))<|O.q 1 rfl<|O.nil ?_;exact S.iR bl (S.dH (ih (i+1) (by exact ⟨by omega,Ky hi hx2 ⟨⟨k1,k2⟩,aR⟩⟩) ah))
     ·refine bO.cr (.p rfl) aa (fun _=>.sk cv aG ai) ?_
      refine af.aC (.p rfl) aa rfl aa rfl rfl ((r9 hT.hH hT.hK ah)) ?_;rintro _ _ ⟨rfl,rfl⟩
      try simp only [an,aq,au]
      refine .quiet (.p rfl) rfl (fun _=>.neq rfl rfl)<|af.aL 32 rfl (by exact decide_eq_false ah) ?_;refine af.q 1 rfl<|aK.nil<|S.aP rfl<|S.seq<|S.region rfl<|O.op (.p rfl) (.fieldAddr eB rfl)<|O.op (.p rfl) (.loadAt bV rfl h6 rfl) ?_;refine O.op (.p rfl) (.fieldAddr gl rfl)<|O.op (.p rfl) (.loadAt eN rfl (h6.drop 1) rfl) ?_;refine O.aC (.p rfl) rfl aa rfl rfl ((rW nk ah)) ?_;rintro _ _ ⟨rfl,rfl⟩
      try simp only [an,aq,au]
      refine O.sT 38 rfl (by exact decide_eq_true aR) ?_;refine O.op (.p rfl) (.not rfl)<|O.q 1 rfl<|O.nil<|S.aP rfl<|S.skip<|S.inBlock<|S.inBlock<|S.region rfl<|O.op (.p rfl) (.add rfl rfl (IntWalk.i64_in _ ah))<|O.q 1 rfl<|O.nil ?_;exact S.iR bl (S.dH (ih (i+1) (by exact ⟨by omega,Ky hi hx2 ⟨⟨k1,k2⟩,aR⟩⟩) ah))
    ·have ff:=SV ⟨k1,k2⟩ aR
     have hE:jo s l=4:=(Af hi hx2 (by rw [ff];decide)).trans ff;rw [hE,if_neg zE] at hR;refine S.skip<|S.seq<|S.block<|S.seq<|S.region rfl<|O.b_ (.p rfl) underlying25 dz rfl rfl (show _=(((i):Nat):Int) by omega) (by first|assumption|exact aj.mono hg aB|exact aj.left aB|exact aj.left (aj.mono hg aB)) (h:=fun z8 yE lN lR=>?_);obtain ⟨DU,DV,rfl,zo,nk⟩:=cq.sh lR;refine O.op (.p rfl) (.bI isAgg31 aa rfl lN) ?_;refine O.aO (.p rfl) (.alloc (cs:=[.string ⟨#[]⟩,.slice none 0 0]) zeroValue31 rfl) ?_;rintro _ _ ⟨gh,rfl,rfl⟩;refine O.bw rfl (.cZ aa rfl rfl rfl rfl ai aT) ?_;refine O.nil<|S.block<|S.seq<|S.seq<|S.cV ai fun g hs hm h6=>?_;replace hg:=Fr.aI hg hs;replace hR:=bt hR hm
     try replace hT:=hT.mono hs
     try replace ha:=ha.mono hs
     try replace lN:=lN.mono hs
     try replace nk:=nk.mono hs
     try replace lR:=lR.mono hs
     replace bl:=eD bl hm;clear hs hm;refine S.region rfl<|O.op (.p rfl) (.fieldAddr eB rfl)<|O.op (.p rfl) (.loadAt bV rfl h6 rfl) ?_;refine O.aC (.p rfl) rfl aa rfl rfl ((pS ah)) ?_;rintro _ _ ⟨rfl,rfl⟩
     try simp only [an,aq,au]
     refine O.sT 23 rfl (by exact decide_eq_true k1) ?_;refine O.op (.p rfl) (.not rfl)<|O.q 1 rfl<|O.nil<|S.aP rfl<|S.bB (L:=[0,1,3,4,5,2,6,7,8]) bx aa ?_;refine .quiet (.p rfl) rfl (fun _=>.fieldAddr eB rfl)<|.quiet (.p rfl) rfl (fun _=>.loadAt bV rfl h6 rfl) ?_;refine af.q 1 rfl<|.quiet (.p rfl) rfl (fun _=>.nilCheck rfl)<|.quiet (.p rfl) rfl (fun _=>.fieldAddr uF rfl)<|af.eW 2 6 [6,7,8] [2,7,8] aa rfl rfl ?_ ?_
     ·refine bO.aC (.p rfl) aa rfl aa rfl rfl ((r9 hT.hH hT.hK ah)) ?_
      rintro _ _ ⟨rfl,rfl⟩
      try simp only [an,aq,au]
      refine af.cr (.p rfl) aa (fun _=>.sk cv aG ai) ?_;refine .quiet (.p rfl) rfl (fun _=>.neq rfl rfl)<|af.aL 32 rfl (by exact decide_eq_false ah) ?_;refine af.q 1 rfl<|aK.nil<|S.aP rfl<|S.seq<|S.region rfl<|O.op (.p rfl) (.fieldAddr eB rfl)<|O.op (.p rfl) (.loadAt bV rfl h6 rfl) ?_;refine O.op (.p rfl) (.fieldAddr gl rfl)<|O.op (.p rfl) (.loadAt eN rfl (h6.drop 1) rfl) ?_;refine O.aC (.p rfl) rfl aa rfl rfl ((rW nk ah)) ?_;rintro _ _ ⟨rfl,rfl⟩
      try simp only [an,aq,au]
      refine O.aL 38 rfl (by exact decide_eq_false aR) ?_;refine O.op (.p rfl) (.not rfl)<|O.q 1 rfl<|O.nil<|S.bC rfl<|S.seq<|S.region rfl<|O.q 1 rfl<|O.nil ?_;exact S.rt results30 rfl hR ⟨rfl,rfl⟩
     ·refine bO.cr (.p rfl) aa (fun _=>.sk cv aG ai) ?_
      refine af.aC (.p rfl) aa rfl aa rfl rfl ((r9 hT.hH hT.hK ah)) ?_;rintro _ _ ⟨rfl,rfl⟩
      try simp only [an,aq,au]
      refine .quiet (.p rfl) rfl (fun _=>.neq rfl rfl)<|af.aL 32 rfl (by exact decide_eq_false ah) ?_;refine af.q 1 rfl<|aK.nil<|S.aP rfl<|S.seq<|S.region rfl<|O.op (.p rfl) (.fieldAddr eB rfl)<|O.op (.p rfl) (.loadAt bV rfl h6 rfl) ?_;refine O.op (.p rfl) (.fieldAddr gl rfl)<|O.op (.p rfl) (.loadAt eN rfl (h6.drop 1) rfl) ?_;refine O.aC (.p rfl) rfl aa rfl rfl ((rW nk ah)) ?_;rintro _ _ ⟨rfl,rfl⟩
      try simp only [an,aq,au]
      refine O.aL 38 rfl (by exact decide_eq_false aR) ?_;refine O.op (.p rfl) (.not rfl)<|O.q 1 rfl<|O.nil<|S.bC rfl<|S.seq<|S.region rfl<|O.q 1 rfl<|O.nil ?_;exact S.rt results30 rfl hR ⟨rfl,rfl⟩
   ·have ff:=Jy (s:=s) (x:=l[i]) (fun q=>k2 q.2)
    have hE:jo s l=22:=(Af hi hx2 (by rw [ff];decide)).trans ff;rw [hE,if_neg zE] at hR;refine S.skip<|S.seq<|S.block<|S.seq<|S.region rfl<|O.b_ (.p rfl) underlying25 dz rfl rfl (show _=(((i):Nat):Int) by omega) (by first|assumption|exact aj.mono hg aB|exact aj.left aB|exact aj.left (aj.mono hg aB)) (h:=fun z8 yE lN lR=>?_);obtain ⟨DU,DV,rfl,zo,nk⟩:=cq.sh lR;refine O.op (.p rfl) (.bI isAgg31 aa rfl lN) ?_;refine O.aO (.p rfl) (.alloc (cs:=[.string ⟨#[]⟩,.slice none 0 0]) zeroValue31 rfl) ?_;rintro _ _ ⟨gh,rfl,rfl⟩;refine O.bw rfl (.cZ aa rfl rfl rfl rfl ai aT) ?_;refine O.nil<|S.block<|S.seq<|S.seq<|S.cV ai fun g hs hm h6=>?_;replace hg:=Fr.aI hg hs;replace hR:=bt hR hm
    try replace hT:=hT.mono hs
    try replace ha:=ha.mono hs
    try replace lN:=lN.mono hs
    try replace nk:=nk.mono hs
    try replace lR:=lR.mono hs
    replace bl:=eD bl hm;clear hs hm;refine S.region rfl<|O.op (.p rfl) (.fieldAddr eB rfl)<|O.op (.p rfl) (.loadAt bV rfl h6 rfl) ?_;refine O.aC (.p rfl) rfl aa rfl rfl ((pS ah)) ?_;rintro _ _ ⟨rfl,rfl⟩
    try simp only [an,aq,au]
    refine O.sT 23 rfl (by exact decide_eq_true k1) ?_;refine O.op (.p rfl) (.not rfl)<|O.q 1 rfl<|O.nil<|S.aP rfl<|S.bB (L:=[0,1,3,4,5,2,6,7,8]) bx aa ?_;refine .quiet (.p rfl) rfl (fun _=>.fieldAddr eB rfl)<|.quiet (.p rfl) rfl (fun _=>.loadAt bV rfl h6 rfl) ?_;refine af.q 1 rfl<|.quiet (.p rfl) rfl (fun _=>.nilCheck rfl)<|.quiet (.p rfl) rfl (fun _=>.fieldAddr uF rfl)<|af.eW 2 6 [6,7,8] [2,7,8] aa rfl rfl ?_ ?_
    ·refine bO.aC (.p rfl) aa rfl aa rfl rfl ((r9 hT.hH hT.hK ah)) ?_
     rintro _ _ ⟨rfl,rfl⟩
     try simp only [an,aq,au]
     refine af.cr (.p rfl) aa (fun _=>.sk cv aG ai) ?_;refine .quiet (.p rfl) rfl (fun _=>.neq rfl rfl)<|af.sT 32 rfl (by exact decide_eq_true ah) ?_;refine af.q 1 rfl<|aK.nil<|S.bC rfl<|S.seq<|S.region rfl<|O.q 1 rfl<|O.nil ?_;exact S.rt results30 rfl hR ⟨rfl,rfl⟩
    ·refine bO.cr (.p rfl) aa (fun _=>.sk cv aG ai) ?_
     refine af.aC (.p rfl) aa rfl aa rfl rfl ((r9 hT.hH hT.hK ah)) ?_;rintro _ _ ⟨rfl,rfl⟩
     try simp only [an,aq,au]
     refine .quiet (.p rfl) rfl (fun _=>.neq rfl rfl)<|af.sT 32 rfl (by exact decide_eq_true ah) ?_;refine af.q 1 rfl<|aK.nil<|S.bC rfl<|S.seq<|S.region rfl<|O.q 1 rfl<|O.nil ?_;exact S.rt results30 rfl hR ⟨rfl,rfl⟩
  ·have ff:=Jy (s:=s) (x:=l[i]) (fun q=>k1 q.1)
   have hE:jo s l=22:=(Af hi hx2 (by rw [ff];decide)).trans ff;rw [hE,if_neg zE] at hR;refine S.skip<|S.seq<|S.block<|S.seq<|S.region rfl<|O.b_ (.p rfl) underlying25 dz rfl rfl (show _=(((i):Nat):Int) by omega) (by first|assumption|exact aj.mono hg aB|exact aj.left aB|exact aj.left (aj.mono hg aB)) (h:=fun z8 yE lN lR=>?_);obtain ⟨DU,DV,rfl,zo,nk⟩:=cq.sh lR;refine O.op (.p rfl) (.bI isAgg31 aa rfl lN) ?_;refine O.aO (.p rfl) (.alloc (cs:=[.string ⟨#[]⟩,.slice none 0 0]) zeroValue31 rfl) ?_;rintro _ _ ⟨gh,rfl,rfl⟩;refine O.bw rfl (.cZ aa rfl rfl rfl rfl ai aT) ?_;refine O.nil<|S.block<|S.seq<|S.seq<|S.region rfl<|O.op (.p rfl) (.aF eB rfl)<|O.op (.p rfl) (.lo bV) ?_;refine O.aC (.p rfl) rfl aa rfl rfl ((pS zo)) ?_;rintro _ _ ⟨rfl,rfl⟩
   try simp only [an,aq,au]
   refine O.aL 23 rfl (by exact decide_eq_false k1) ?_;refine O.op (.p rfl) (.not rfl)<|O.q 1 rfl<|O.nil<|S.bC rfl<|S.skip<|S.bC rfl<|S.seq<|S.region rfl<|O.q 1 rfl<|O.nil ?_;exact S.rt results30 rfl hR ⟨rfl,rfl⟩
 ·clear ih
  have hi:i=l.length:=by omega
  subst hi;rw [List.take_length] at hx2;have hE:jo s l=0:=Eu.2 hx2;rw [hE,if_pos rfl] at hR;refine S.imp (ax :=[bp aJ d b s (fW L (l.take 0))]) (fun m h=>h) ?_;refine S.exit rfl<|S.seq<|S.seq<|S.region rfl<|O.q 1 rfl<|O.op (.p rfl) (.len rfl underlying25 rfl)<|O.q 1 rfl<|O.nil<|S.block<|S.fT (ι:=Nat) (fun i=>i≤l.length) (fun i=>[(43,.int .i64 (i:Int))]) [(0,_),(41,_),(42,_)] (fun i=>[bp aJ d b s (fW L (l.take i))]) (fun i=>l.length - i) (0) bq (.cons rfl (.nil)) (.cons rfl (.cons rfl (.cons rfl (.nil)))) rfl fun i hx ih=>?_;have hm2:=cW (g:=g);refine S.seq<|S.region rfl<|O.op (.p rfl) (.lss rfl rfl)<|O.nil (S.seq ?_)
  first|refine S.ct rfl (fun rE=>?_) (fun rE=>?_)|refine S.cm rfl (fun rE=>?_) (fun rE=>?_)
  ·have hi:i<l.length:=by omega
   have C6:=tj _ (List.getElem_mem hi);have kr:=hx2 _ (List.getElem_mem hi);have k0:l[i].1.length≤64:=kr.1.1.2;have CF:gI s (fW L (l.take i)):=gI.Ev hT.ok (fun x hx=>hx2 x (List.mem_of_mem_take hx));have hn:=Ew (l.take i) L;have jl:(l.take i).length=i:=by simp;omega
   have eO:fW L (l.take (i+1))=gF (fW L (l.take i)) (l[i].1,l[i].2.1,()):=S3 hi;generalize fW L (l.take i)=uk at CF hn eO ⊢;refine S.skip<|S.seq<|S.block<|S.seq<|S.region rfl<|O.b_ (.p rfl) underlying25 dz rfl rfl (show _=(((i):Nat):Int) by omega) (by first|assumption|exact aj.mono hg aB|exact aj.left aB|exact aj.left (aj.mono hg aB)) (h:=fun Yp Ws Di Dz=>?_);obtain ⟨XZ,X6,rfl,Xt,CK⟩:=cq.sh Dz;refine O.op (.p rfl) (.bI isAgg31 aa rfl Di) ?_;refine O.aO (.p rfl) (.alloc (cs:=[.string ⟨#[]⟩,.slice none 0 0]) zeroValue31 rfl) ?_;rintro _ _ ⟨jT,rfl,rfl⟩;refine O.bw rfl (.cZ aa rfl rfl rfl rfl ai aT) ?_;refine O.nil<|S.seq<|S.cV ai fun g hs hm h8=>?_;replace hg:=Fr.aI hg hs;replace hR:=bt hR hm
   try replace hT:=hT.mono hs
   try replace ha:=ha.mono hs
   try replace Di:=Di.mono hs
   try replace CK:=CK.mono hs
   try replace Dz:=Dz.mono hs
   replace bl:=eD bl hm;replace hm2:=eD hm2 hm;clear hs hm;refine S.cg (A:=fc aJ d b s uk uk) (bs:=[bp aJ d b s uk]) aV (fun m h=>U8 h) ?_;refine S.bB (L:=[0,1,2,3,4,6,7,5,8,9,10]) bx aa ?_;refine af.q 1 rfl<|.quiet (.p rfl) rfl (fun _=>.nilCheck rfl)<|.quiet (.p rfl) rfl (fun _=>.fieldAddr mq rfl)<|.quiet (.p rfl) rfl (fun _=>.fieldAddr eB rfl)<|.quiet (.p rfl) rfl (fun _=>.loadAt bV rfl h8 rfl) ?_;refine .quiet (.p rfl) rfl (fun _=>.fieldAddr gl rfl)<|.quiet (.p rfl) rfl (fun _=>.loadAt eN rfl (h8.drop 1) rfl) ?_;refine af.aC (.p rfl) aa rfl aa rfl rfl ((J3 ah)) ?_;rintro _ _ ⟨rfl,rfl⟩
   try simp only [an,aq,au]
   refine af.aC (.p rfl) aa rfl aa rfl rfl ((z1 CK kr.2.1 ah)) ?_;rintro _ _ ⟨a55,LU,rfl,rfl⟩
   try simp only [an,aq,au]
   refine .quiet (.p rfl) rfl (fun _=>.build (cs:=[_,_]) underlying31 rfl rfl rfl rfl rfl)<|af.eL (.p rfl) aa rfl aa rfl rfl (bs:=[fc aJ d b s uk uk,c_ (eH cS) 102 (.slice a55 l[i].2.1.length LU) l[i].2.1]) aV (UO hT.hd CF.2 ah ah hT.hH hT.hK) ?_;rintro _ _ ⟨rfl,rfl⟩
   try simp only [an,aq,au]
   refine aK.nil<|S.seq<|S.region rfl<|O.op (.p rfl) (.fieldAddr eB rfl)<|O.op (.p rfl) (.loadAt bV rfl h8 rfl) ?_;refine O.aC (.p rfl) rfl aa rfl rfl ((om hT.hH hT.hK ah)) ?_;rintro _ _ ⟨rfl,rfl⟩
   try simp only [an,aq,au]
   refine O.q 1 rfl<|O.nil (S.seq ?_);rw [← eO];refine S.open (bs:=fun x:bP d uk=>bP.pn aJ b s x (fW L (l.take (i+1)))) ai (fun m h=>fc.gy h) fun x=>?_;obtain ⟨k,c8,c9,mid,M,dU,wf,ok⟩:=x;simp only [bP.pn,List.cons_append,List.nil_append];refine S.region rfl<|O.q 1 rfl<|O.op (.p rfl) (.nilCheck rfl)<|O.op (.p rfl) (.aF pK rfl)<|O.op (.p rfl) (.lo kK) ?_;refine O.aO (.p rfl) (.EA underlying75 rfl ai) ?_;rintro _ _ ⟨Iz,rfl,rfl⟩;refine O.nil<|S.block<|S.pk (ζ:=[jd (K:=List UInt8) Iz mid dU [],cc encS mid M dU,jt k,obj b 77 [c8,c9,.int .i64 (s:Int),.map (some mid)],av (ag.fP d k cq) 31 c8 (fW L (l.take (i+1))),av ag.str 9 c9 ((fW L (l.take (i+1))).map fun y=>bT y.1)]) jM ?_
   refine S.zL (ι:=List (b8 (List UInt8))) (dB:=List (b8 (List UInt8))) (jO:=List (b8 (List UInt8))) (fun bc jK cur=>mS M (fun p=>p.isPrefixOf (bT l[i].1)) dU bc jK cur) (fun bc jK cur=>[]) [(0,_),(9,_),(41,_),(42,_),(43,_),(65,_)] (fun bc jK cur=>[jd Iz mid dU bc,cc encS mid cur dU,jt k,obj b 77 [c8,c9,.int .i64 (s:Int),.map (some mid)],av (ag.fP d k cq) 31 c8 (fW L (l.take (i+1))),av ag.str 9 c9 ((fW L (l.take (i+1))).map fun y=>bT y.1)]) (fun bc jK cur=>jK.length) ([]) (M) (M) (by exact mS.start wf) (.nil) (.cons rfl (.cons rfl (.cons rfl (.cons rfl (.cons rfl (.cons rfl (.nil))))))) (by with_reducible rfl) fun bc jK cur hx ih=>?_;have HR:=cW (g:=g);refine S.seq<|S.region rfl<|O.RX (.p rfl) rfl hx.tZ hx.hp hx.wf hx.sub hx.left ai ai (fun Cv=>?_) (fun su t166 t266 Cv=>?_)
   ·clear ih
    subst Cv;have Sc:iy d k (fW L (l.take (i+1))) cur:=by rw [eO];exact ok.thin CF.2 hx
    refine O.q 1 rfl<|O.nil<|S.seq<|S.aP rfl<|S.exit rfl<|S.inBlock<|S.cg (A:=bp aJ d b s (fW L (l.take (i+1)))) (bs:=bP.ws aJ b s ⟨k,c8,c9,mid,cur,dU,hx.wf,Sc⟩) aV (fun m h=>bp.fold _ h) ?_;refine S.region rfl<|O.op (.p rfl) (.add rfl rfl (IntWalk.i64_in _ ah))<|O.q 1 rfl<|O.nil ?_;exact S.iR hm2 (S.pw (ih (i+1) ah ah))
   ·subst Cv
    have hmem:su∈cur:=hx.left _ bq;have mz:su.1.length≤510:=(ok su.1 su.2.1 (uJ wf.2.2 (hx.sub _ hmem))).1.1;refine O.q 1 rfl<|O.nil<|S.seq<|S.bC rfl<|S.skip<|S.block<|S.seq<|S.region rfl<|O.op (.p rfl) (.B3 rfl hx.wf hmem ai ai) ?_;refine O.q 2 rfl<|O.nil (S.seq ?_)
    by_cases JF:su.1.isPrefixOf (bT l[i].1)=true
    ·
     refine S.region rfl<|O.q 2 rfl<|O.aC (.p rfl) rfl aa rfl rfl ((wF (by rw [lp];decide) ah)) ?_;rintro _ _ ⟨rfl,rfl⟩
     try simp only [an,aq,au]
     refine O.sT 72 rfl (by exact JF) ?_;refine O.nil<|S.bC rfl<|S.region rfl<|O.q 1 rfl<|O.op (.p rfl) (.nilCheck rfl)<|O.op (.p rfl) (.aF pK rfl)<|O.op (.p rfl) (.lo kK) ?_;refine O.q 1 rfl<|O.GI rfl underlying75 (o3 underlying9) rfl rfl ai ?_;refine O.nil (S.inBlock ?_);exact S.pw (ih (bc++[su]) (t166++t266) (gM cur su.1) (by exact hx.drop) bq)
    ·have JG :=Bool.eq_false_iff.2 JF
     refine S.region rfl<|O.q 2 rfl<|O.aC (.p rfl) rfl aa rfl rfl ((wF (by rw [lp];decide) ah)) ?_;rintro _ _ ⟨rfl,rfl⟩
     try simp only [an,aq,au]
     refine O.aL 72 rfl (by exact JG) ?_;refine O.nil<|S.aP rfl<|S.skip (S.inBlock ?_);exact S.pw (ih (bc++[su]) (t166++t266) (cur) (by exact hx.keep JG) bq)
  ·clear ih
   have hi:i=l.length:=by omega
   subst hi;rw [List.take_length];refine S.exit rfl<|S.seq<|S.region rfl<|O.q 1 rfl<|O.nil ?_;exact S.rt results30 rfl hR ⟨rfl,rfl⟩
def pick (x n:Int):Int:=if n<1 then 0 else if x.tmod n<0 then x.tmod n+n else x.tmod n
theorem K7 {r:Fr} (x n:Int) (hn:cE n):ay prog 28 #[.int .i64 x,.int .i64 n] r [] (aM fun v U=>v=.int .i64 (pick x n)∧U=[]):=by
 refine ay.of (n:=16) _ rfl func28 rfl rfl rfl fun g hg R hR=>?_;unfold cE at hn;refine S.seq<|S.region rfl<|O.q 1 rfl<|O.nil<|S.seq<|S.seq<|S.region rfl<|O.q 1 rfl<|O.op (.p rfl) (.lss rfl rfl)<|O.nil ?_
 first|refine S.ct rfl (fun h6=>?_) (fun h6=>?_)|refine S.cm rfl (fun h6=>?_) (fun h6=>?_)
 ·refine S.seq<|S.region rfl<|O.q 1 rfl<|O.nil<|S.ret results28 rfl fun w hw=>hR _ _ w ?_ hw
  exact ⟨by simp [pick,h6],rfl⟩
 ·have b1:=Int.tmod_lt_of_pos x (show 0<n by omega)
  have b2:=Int.lt_tmod_of_pos x (show 0<n by omega);refine S.skip<|S.seq<|S.region rfl<|O.q 2 rfl<|O.op (.p rfl) (.rem rfl rfl ah)<|O.q 1 rfl<|O.nil<|S.seq<|S.seq<|S.region rfl<|O.q 1 rfl<|O.op (.p rfl) (.lss rfl rfl)<|O.nil ?_
  first|refine S.ct rfl (fun h11=>?_) (fun h11=>?_)|refine S.cm rfl (fun h11=>?_) (fun h11=>?_)
  ·refine S.region rfl<|O.q 2 rfl<|O.op (.p rfl) (.add rfl rfl (IntWalk.i64_in _ ah))<|O.q 1 rfl<|O.nil<|S.seq<|S.region rfl<|O.q 2 rfl<|O.nil<|S.ret results28 rfl fun w hw=>hR _ _ w ?_ hw
   exact ⟨by simp [pick,h6,h11],rfl⟩
  ·refine S.skip<|S.seq<|S.region rfl<|O.q 2 rfl<|O.nil<|S.ret results28 rfl fun w hw=>hR _ _ w ?_ hw
   exact ⟨by simp [pick,h6,h11],rfl⟩
attribute [local irreducible] fW
theorem SK (x:Int) {n:Nat} (hn:0<n):∃ k:Nat,pick x n=(k:Int)∧k<n:=by
 have b1:=Int.tmod_lt_of_pos x (show 0<(n:Int) by omega);have b2:=Int.lt_tmod_of_pos x (show 0<(n:Int) by omega);have b3:0≤pick x n∧pick x n<n:=by
  unfold pick
  split
  ·omega
  ·split<;>omega
 exact ⟨(pick x n).toNat,by omega,by omega⟩
end Go.Proofs.YtojafegjlahajaaGreatDoor
