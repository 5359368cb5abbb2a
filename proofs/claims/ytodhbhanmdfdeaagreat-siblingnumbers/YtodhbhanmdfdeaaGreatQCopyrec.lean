/- Texts of this proof. -/
import Derived.Test.YtodhbhanmdfdeaaGreatQFlatRecords
import Derived.Test.YtodhbhanmdfdeaaGreatQFlatHeldRow
import Derived.Test.YtodhbhanmdfdeaaGreatQSlaw5
open Go Go.Sp Go.Proofs.Tryz
set_option maxRecDepth 100000
set_option maxHeartbeats 1000000
attribute [local irreducible] obj Own OwnP
namespace Go.Proofs.YtodhbhanmdfdeaaGreat
def markLI (k n:Nat):List Int:=(List.range n).map fun (i:Nat)=>markZ (k:Int) (i:Int)
@[simp] theorem markL_lengthI (k n:Nat):(markLI k n).length=n:=by simp [markLI]
theorem markL_succI (k n:Nat):markLI k n++[markZ (k:Int) (n:Int)]=markLI k (n+1):=by simp [markLI,List.range_succ]
theorem markL_setI (k:Nat) (zs:List Int) (i:Nat) (h:i<zs.length):(markLI k i++zs.drop i).set i (markZ (k:Int) (i:Int))=markLI k (i+1)++zs.drop (i+1):=by
 rw [List.set_append_right _ _ zG,markL_lengthI,Nat.sub_self,List.drop_eq_getElem_cons h,List.set_cons_zero,← markL_succI];simp
def markXI (k n i:Nat):List Int:=(List.range i).map fun (q:Nat)=>markZ (k:Int) ((n:Int)+(q:Int))
@[simp] theorem markX_lengthI (k n i:Nat):(markXI k n i).length=i:=by simp [markXI]
theorem markX_succI (k n i:Nat):markXI k n i++[markZ (k:Int) ((n:Int)+(i:Int))]=markXI k n (i+1):=by simp [markXI,List.range_succ]
theorem markLXI (k n i:Nat):markLI k n++markXI k n i=markLI k (n+i):=by
 induction i with
 |zero=>simp [markXI]
 |succ i ih=>rw [← markX_succI,← List.append_assoc,ih,← Nat.add_assoc,← markL_succI];simp
def MarkedI (xss:List (List Int)) (k:Nat) (ws:List (List Int)):Prop:=ws.map List.length=xss.map List.length∧∀ (j:Nat) (h:j<ws.length),j<k→ws[j]=markLI j ws[j].length
theorem MarkedI.len {xss ws:List (List Int)} {k:Nat} (h:MarkedI xss k ws):ws.length=xss.length:=by simpa using congrArg List.length h.1
theorem MarkedI.bd {xss ws:List (List Int)} {k b:Nat} (h:MarkedI xss k ws) (hb:∀ x∈xss,x.length≤b) (j:Nat) (hj:j<ws.length):ws[j].length≤b:=by
 have h1:(ws.map List.length)[j]'(by simpa using hj)=(xss.map List.length)[j]'(by simpa [← h.len] using hj):=getElem_congr_coll h.1;simp only [List.getElem_map] at h1;rw [h1];exact hb _ (List.getElem_mem _)
theorem MarkedI.set {xss ws:List (List Int)} {k:Nat} (h:MarkedI xss k ws) (hk:k<ws.length):MarkedI xss (k+1) (ws.set k (markLI k ws[k].length)):=by
 refine ⟨?_,fun j hj hjk=>?_⟩
 ·rw [← h.1]
  refine List.ext_getElem zG fun i h1 h2=>?_;simp only [List.getElem_map,List.getElem_set]
  split
  ·rename_i e;subst e;simp
  ·rfl
 ·rw [List.getElem_set]
  split
  ·rename_i e;subst e;simp
  ·exact h.2 j (by simpa using hj) zD
def TwoEI (e:TypeId) (p:Value × Value) (x:List Int × List Int):SProp:=Two Rp.i64 e p.1 x.1 p.2 x.2
def pairsXI (ws:List (List Int)) (k:Nat):List (List Int × List Int):=(List.range k).map fun j=>(ws[j]?.getD [],markXI j (ws[j]?.getD []).length 64)
theorem pairsX_succI (ws:List (List Int)) (k:Nat) (h:k<ws.length):pairsXI ws k++[(ws[k],markXI k ws[k].length 64)]=pairsXI ws (k+1):=by simp [pairsXI,List.range_succ,h]
def markMI (j n i:Nat):List Int:=(List.range i).map fun (q:Nat)=>markZ ((j:Int)+(n:Int)) (q:Int)
@[simp] theorem markM_lengthI (j n i:Nat):(markMI j n i).length=i:=by simp [markMI]
theorem markM_succI (j n i:Nat):markMI j n i++[markZ ((j:Int)+(n:Int)) (i:Int)]=markMI j n (i+1):=by simp [markMI,List.range_succ]
def pairsMI (ws:List (List Int)) (n k:Nat):List (List Int × List Int):=(List.range k).map fun j=>(ws[j]?.getD [],markMI j n 64)
theorem pairsM_succI (ws:List (List Int)) (n k:Nat) (h:k<ws.length):pairsMI ws n k++[(ws[k],markMI k n 64)]=pairsMI ws n (k+1):=by simp [pairsMI,List.range_succ,h]
theorem zip_snocI {vs us:List Value} {k:Nat} {v u:Value} (hk:k<vs.length) (hu:us.length=k) (hv:vs[k]=v):(vs.take k).zip us++[(v,u)]=(vs.take (k+1)).zip (us++[u]):=by
 rw [List.take_succ_eq_append_getElem hk,List.zip_append zJ,hv];rfl
theorem set_fillI {α:Type} {us:List α} {z u:α} {n k:Nat} (hu:us.length=k) (hk:k<n):(us++List.replicate (n - k) z).set k u=(us++[u])++List.replicate (n - (k+1)) z:=by
 rw [List.set_append_right _ _ zD,hu,Nat.sub_self];obtain ⟨m,hm⟩:∃ m,n - k=m+1:=⟨n - k - 1,by omega⟩;rw [hm,List.replicate_succ,List.set_cons_zero,show n - (k+1)=m from by omega];simp
theorem set_overI {α:Type} {us us2:List α} {u:α} {k:Nat} (hu:us.length=k) (hk:k<us2.length):(us++us2.drop k).set k u=(us++[u])++us2.drop (k+1):=by
 rw [List.set_append_right _ _ zD,hu,Nat.sub_self,List.drop_eq_getElem_cons hk,List.set_cons_zero];simp
theorem two_atI {g:Fr} {vs us:List Value} {ws:List (List Int)} {n:Nat} {f:Nat→List Int} {m:Fr} {e:TypeId} (hm:EachP (TwoEI e) (vs.zip us) ((List.range n).map fun j=>(ws[j]?.getD [],f j)) m) (hs:m.sub g) (hv:vs.length=n) (hu:us.length=n) (ha:ws.length=n)
  (k:Nat) (h1:k<vs.length) (h2:k<us.length) (h3:k<ws.length):Arr Rp.i64 g vs[k] ws[k]∧Arr Rp.i64 g us[k] (ws[k]++f k):=by
 have h:=EachP.all2 (R:=fun (p:Value × Value) (x:List Int × List Int)=>Arr Rp.i64 g p.1 x.1∧Arr Rp.i64 g p.2 (x.1++x.2)) (fun b a m' (x:Two _ _ _ _ _ _ m') s=>⟨(Two.arr x).1.mono s,(Two.arr x).2.mono s⟩) hm hs;have h4:=h.get k zJ zJ
 simpa [h3] using h4
theorem flatInts_c {r:Fr} {va:Value} {vs:List Value} {xss:List (List Int)} (hls:Arr Rp.val r va vs) (hq:∀ x∈xss,x.length≤100000000) (hb:xss.length≤100000000) :
  Con prog 164 #[va] r [RowsP Rp.i64 3 vs xss] (Ret fun v η=>v=.bool true∧η=[]):=by
 refine Con.o func164 fun g hg R hR=>?_;have hls:=hls.mono hg;obtain ⟨a1,c1,rfl⟩:=hls.shape;refine S.factS Sel.here (fun _ x=>EachP.len x) fun hlen=>?_;refine zz 10 ?_;refine S.loopK2 (ι:=Nat) (κ:=List (List Int)) (fun k ws=>k≤vs.length∧MarkedI xss k ws) (fun k ws=>[(3,.int .i64 (k:Int))]) [(0,_)] (fun k ws=>[RowsP Rp.i64 3 vs ws]) (fun k ws=>vs.length - k) (0) (xss) (by exact ⟨by simp,rfl,fun j _ h=>absurd h zD⟩) zq zq rfl fun k ws hx ih=>?_;have hm1:=meltRefl (g:=g);obtain ⟨hx1,hm⟩:=hx;have hal:=hm.len;refine zz 8 ?_;refine S.cd rfl (fun h19=>?_) fun h19=>?_
 ·have hk:k<vs.length:=by omega
  have hka:k<ws.length:=by omega
  have hrow:=hm.bd hq k hka;refine S.eachAt k hk hka zB ?_;refine S.factS Sel.here (fun _ x=>OwnP.shape x) fun ⟨ak,ck,hvk⟩=>?_;refine zz 8 ?_;refine S.conv (B:=OwnP Rp.i64 3 vs[k] ws[k]) (C:=OwnP Rp.i64 3 vs[k] (markLI k 0++ws[k].drop 0)) zB (fun m x=>⟨m,Fr.sub_refl _,by simpa [markLI] using x⟩) ?_;refine S.loopK (ι:=Nat) (fun i=>i≤ws[k].length) (fun i=>[(4,.int .i64 (i:Int))]) [(0,_),(3,_)] (fun i=>[OwnP Rp.i64 3 vs[k] (markLI k i++ws[k].drop i),EachP (OwnP Rp.i64 3) (vs.eraseIdx k) (ws.eraseIdx k)]) (fun i=>ws[k].length - i) (0) zG zq zq rfl fun i hx ih=>?_;have hm2:=meltRefl (g:=g);refine zz 6 ?_;refine O.iz (hls) (h:=fun p25 cs25 hp25 hr25=>?_);obtain ⟨rfl,_⟩:=hr25;refine zz 1 ?_;refine O.slot 26 (v' :=.slice ak ws[k].length ck) rfl (by exact hvk) ?_;refine zz 3 ?_;refine S.cd rfl (fun h28=>?_) fun h28=>?_
  ·have hi:i<ws[k].length:=by omega
   refine S.skip<|S.seq<|S.block<|S.regionD (L:=.range 10) F.mixed zC<|OD.q 2 rfl<|OD.iz (hls) (h:=fun p33 cs33 hp33 hr33=>?_);obtain ⟨rfl,_⟩:=hr33;refine zz 1 ?_;refine OD.q 3 rfl<|OD.v0 (.p rfl) zC rfl zC rfl rfl (mark_c _ _ zH zH) ?_;refine OD.idxOwn (T:=Rp.i64) (.p rfl) zC underlying25 size3 rfl rfl rfl zB zL (fun p39 hp39=>?_);refine OD.storeOwn rfl zC size3 rfl hp39 rfl zB zL (by exact ⟨rfl,markZ64 zH zH⟩:Rp.rel _ _ _ (markZ (k:Int) (i:Int))) ?_;refine zz 7 ?_;rw [markL_setI k ws[k] i hi];exact S.wk (ih (i+1) zD zD)
  ·clear ih
   have hi:i=ws[k].length:=by omega
   subst hi;rw [List.drop_length,List.append_nil];refine S.eachPut k hk hka (a' :=markLI k ws[k].length) zB zB ?_;refine zz 7 ?_;exact S.wk (ih (k+1) (ws.set k (markLI k ws[k].length)) (by exact ⟨by omega,hm.set hka⟩) zD)
 ·have hk:k=vs.length:=by omega
  subst hk;have hall:∀ (j:Nat) (h:j<ws.length),ws[j]=markLI j ws[j].length:=fun j h=>hm.2 j h zD;have hbd:=hm.bd hq;clear ih hm;refine zz 5 ?_;refine O.opE (.p rfl) (.makeP (T:=Rp.val) (.slice none 0 0) (m:=vs.length) underlying102 elem25 zE ⟨rfl,rfl⟩ rfl rfl rfl rfl zD zD) ?_;rintro _ _ ⟨a42,c42,rfl,rfl⟩;refine zz 8 ?_;refine S.each0 (TwoEI 3) ?_;refine S.loopK2 (ι:=Nat) (κ:=List Value) (fun k us=>k≤vs.length∧us.length=k) (fun k us=>[(6,.int .i64 (k:Int))]) [(0,_),(5,_)] (fun k us=>[EachP (TwoEI 3) ((vs.take k).zip us) (pairsXI ws k),OwnP Rp.val 25 (.slice a42 vs.length c42) (us++List.replicate (vs.length - k) (.slice none 0 0)),EachP (OwnP Rp.i64 3) (vs.drop k) (ws.drop k)]) (fun k us=>vs.length - k) (0) ([]) zO zq zq rfl fun k us hx ih=>?_;have hm2:=meltRefl (g:=g);obtain ⟨hx1,hus⟩:=hx;refine zz 8 ?_;refine S.cd rfl (fun h46=>?_) fun h46=>?_
  ·have hk:k<vs.length:=by omega
   have hka:k<ws.length:=by omega
   have hrow:=hbd k hka;rw [List.drop_eq_getElem_cons hk,List.drop_eq_getElem_cons hka];refine S.eachPop zB ?_;refine S.factS Sel.here (fun _ x=>OwnP.shape x) fun ⟨ak,ck,hvk⟩=>?_;rw [hvk];refine S.twoStart Sel.here ?_;refine zz 7 ?_;refine O.iz (hls) (h:=fun p51 cs51 hp51 hr51=>?_);obtain ⟨rfl,_⟩:=hr51;refine zz 1 ?_;refine O.slot 52 (v' :=.slice ak ws[k].length ck) rfl (by exact hvk) ?_;refine zz 8 ?_;refine S.loopK3 (ι:=Nat) (κ:=Option Addr) (υ:=Nat) (fun i a c=>i≤64) (fun i a c=>[(8,.int .i64 (i:Int)),(7,.slice a (ws[k].length+i) c)]) [(0,_),(5,_),(6,_)] (fun i a c=>[Two Rp.i64 3 (.slice ak ws[k].length ck) ws[k] (.slice a (ws[k].length+i) c) (markXI k ws[k].length i),EachP (OwnP Rp.i64 3) (vs.drop (k+1)) (ws.drop (k+1)),EachP (TwoEI 3) ((vs.take k).zip us) (pairsXI ws k),OwnP Rp.val 25 (.slice a42 vs.length c42) (us++List.replicate (vs.length - k) (.slice none 0 0))]) (fun i a c=>64 - i) (0) (ak) (ck) zG zq zq rfl fun i a c hx ih=>?_;have hm3:=meltRefl (g:=g);refine zz 6 ?_;refine S.cd rfl (fun h54=>?_) fun h54=>?_
   ·have hi:i<64:=by omega
    obtain ⟨hz1,hz2⟩:=markZ64 (k:=(k:Int)) (i:=(ws[k].length:Int)+(i:Int)) zH zH;refine zz 8 ?_;refine O.iz (hls) (h:=fun p61 cs61 hp61 hr61=>?_);obtain ⟨rfl,_⟩:=hr61;refine zz 1 ?_;refine O.slot 62 (v' :=.slice ak ws[k].length ck) rfl (by exact hvk) ?_;refine zz 3 ?_;refine O.v0 (.p rfl) rfl zC rfl rfl (mark_c _ _ zH zH) ?_;refine O.opE (.p rfl) (.litP (T:=Rp.i64) (ys:=[_]) underlying25 elem3 zE rfl rfl ⟨⟨rfl,by first|assumption|(constructor<;>omega)⟩,trivial⟩ zE) ?_;rintro _ _ ⟨a67,c67,rfl,rfl⟩;refine O.frzA zB fun g hs hm ha67=>?_;replace hg:=Fr.sub_trans hg hs;replace hR:=melted hR hm
    try replace hls:=hls.mono hs
    try replace hp51:=hp51.mono hs
    try replace hp61:=hp61.mono hs
    replace hm1:=meltTrans hm1 hm;replace hm2:=meltTrans hm2 hm;replace hm3:=meltTrans hm3 hm;clear hs hm;refine O.opE (.p rfl) (.appendTwo pure_i64 underlying25 elem3 zE rfl rfl zB ha67 zJ zJ) ?_;rintro _ _ ⟨a68,c68,rfl,rfl⟩;refine zz 8 ?_;rw [markX_succI];simp only [markX_lengthI];exact S.melt hm3 (S.wk (ih (i+1) (a68) (c68) zD zD))
   ·clear ih
    have hi:i=64:=by omega
    subst hi;refine zz 5 ?_;refine O.opE (.p rfl) (.idxOwn (T:=Rp.val) underlying102 size25 rfl rfl rfl zB zL) ?_;rintro _ _ ⟨p72,rfl,hp72,rfl⟩;refine O.opU rfl (.storeOwn size25 rfl hp72 rfl zB zL (⟨rfl,rfl⟩:Rp.rel Rp.val _ _ (.slice a (ws[k].length+64) c))) ?_;refine zz 7 ?_;rw [set_fillI hus hk];refine S.conv (B:=Two Rp.i64 3 (.slice ak ws[k].length ck) ws[k] (.slice a (ws[k].length+64) c) (markXI k ws[k].length 64)) (C:=TwoEI 3 (.slice ak ws[k].length ck,.slice a (ws[k].length+64) c) (ws[k],markXI k ws[k].length 64)) zB (fun m x=>⟨m,Fr.sub_refl _,x⟩) ?_;refine S.each (A:=TwoEI 3) zB zB ?_;rw [pairsX_succI ws k hka,zip_snocI hk hus hvk];exact S.pw (ih (k+1) (us++[.slice a (ws[k].length+64) c]) zP zD)
  ·clear ih
   have hk:k=vs.length:=by omega
   subst hk;rw [List.take_length,Nat.sub_self,List.replicate_zero,List.append_nil,List.drop_length];refine zz 7 ?_;refine S.frzT (B:=OwnP Rp.val 25 (.slice a42 vs.length c42) us) zB fun g1 hs1 ⟨m1,hm1',hsm1⟩ th1=>?_;refine S.frzT (B:=EachP (TwoEI 3) (vs.zip us) (pairsXI ws vs.length)) zB fun g2 hs2 ⟨m2,hm2',hsm2⟩ th2=>?_;have hgs:Arr Rp.val g2.h (.slice a42 vs.length c42) us:=hm1'.arr.mono (Fr.sub_trans hsm1 hs2);have hls0:=hls;replace hls:=hls.mono (Fr.sub_trans hs1 hs2);have htw:=fun k h1 h2 h3=>two_atI hm2' hsm2 rfl hus zD k h1 h2 h3;refine S.loopK (ι:=Nat) (fun k=>k≤vs.length) (fun k=>[(9,.int .i64 (k:Int))]) [(0,_),(5,_)] (fun k=>[EachP (OwnP Rp.i64 3) [] (ws.drop vs.length)]) (fun k=>vs.length - k) (0) zG zq zq rfl fun k hx ih=>?_;have hm3:=meltRefl (g:=g);refine zz 8 ?_;refine S.cd rfl (fun h76=>?_) fun h76=>?_
   ·have hk:k<vs.length:=by omega
    have hka:k<ws.length:=by omega
    have hku:k<us.length:=by omega
    have hrow:=hbd k hka;obtain ⟨hA,hB⟩:=htw k hk hku hka;rw [show (ws[k]?.getD [])=ws[k] from by simp [hka]] at hB;have hB0:=hall k hka;obtain ⟨nk,hnk⟩:∃ nk,ws[k].length=nk:=⟨_,rfl⟩;simp only [hnk] at hB0 hrow hB;rw [hB0] at hA hB;rw [markLXI] at hB;obtain ⟨ak,ck,hvk⟩:=hA.shape;obtain ⟨au,cu,huk⟩:=hB.shape;rw [hvk] at hA;rw [huk] at hB;rw [markL_lengthI] at hvk huk hA hB;refine zz 8 ?_;refine S.loopK (ι:=Nat) (fun i=>i≤nk+64) (fun i=>[(10,.int .i64 (i:Int))]) [(0,_),(5,_),(9,_)] (fun i=>[EachP (OwnP Rp.i64 3) [] (ws.drop vs.length)]) (fun i=>nk+64 - i) (0) zG zq zq rfl fun i hx ih=>?_;have hm4:=meltRefl (g:=g);refine zz 6 ?_;refine O.iz (hgs) (h:=fun p82 cs82 hp82 hr82=>?_);obtain ⟨rfl,_⟩:=hr82;refine zz 1 ?_;refine O.slot 83 (v' :=.slice au (nk+64) cu) rfl (by exact huk) ?_;refine zz 3 ?_;refine S.cd rfl (fun h85=>?_) fun h85=>?_
    ·have hi:i<nk+64:=by omega
     refine S.skip<|S.seq<|S.block<|S.seq<|S.regionD (L:=.range 35) F.mixed zC<|OD.q 2 rfl<|OD.iz (hgs) (h:=fun p90 cs90 hp90 hr90=>?_);obtain ⟨rfl,_⟩:=hr90;refine zz 1 ?_;refine OD.slot 91 (v' :=.slice au (nk+64) cu) rfl (by exact huk) ?_;refine OD.q 1 rfl<|OD.iz (hB) (h:=fun p93 cs93 hp93 hr93=>?_);obtain ⟨rfl,_⟩:=hr93;refine zz 1 ?_;refine OD.q 2 rfl<|OD.v0 (.p rfl) zC rfl zC rfl rfl (mark_c _ _ zH zH) ?_;refine zz 1 ?_;refine OD.sT 98 rfl (by simp [markLI]) ?_;refine zz 5 ?_;refine OD.iz (hls) (h:=fun p104 cs104 hp104 hr104=>?_);obtain ⟨rfl,_⟩:=hr104;refine zz 1 ?_;refine OD.slot 105 (v' :=.slice ak nk ck) rfl (by exact hvk) ?_;refine zz 3 ?_
     first|refine OD.caseD 108 rfl (fun h108=>?_) (fun h108=>?_)|refine OD.caseB 108 rfl (fun h108=>?_) (fun h108=>?_)
     ·have hi2:i<nk:=by omega
      refine OD.q 2 rfl<|OD.iz (hls) (h:=fun p111 cs111 hp111 hr111=>?_);obtain ⟨rfl,_⟩:=hr111;refine zz 1 ?_;refine OD.slot 112 (v' :=.slice ak nk ck) rfl (by exact hvk) ?_;refine OD.q 1 rfl<|OD.iz (hA) (h:=fun p114 cs114 hp114 hr114=>?_);obtain ⟨rfl,_⟩:=hr114;refine zz 1 ?_;refine OD.q 2 rfl<|OD.v0 (.g rfl rfl) zC rfl zC rfl rfl (mark_c _ _ zH zH) ?_;refine zz 1 ?_;refine OD.sT 119 rfl (by simp [markLI]) ?_;refine zz 12 ?_;exact S.wk (ih (i+1) zD zD)
     ·refine zz 23 ?_
      exact S.wk (ih (i+1) zD zD)
    ·clear ih
     refine zz 7 ?_;exact S.wk (ih (k+1) zD zD)
   ·clear ih
    refine zz 7 ?_;refine th2 (th1 ?_);replace hls:=hls0;clear htw hgs hls0;refine S.each0 (TwoEI 3) ?_;refine S.loopK2 (ι:=Nat) (κ:=List Value) (fun k vs2=>k≤vs.length∧vs2.length=k) (fun k vs2=>[(11,.int .i64 (k:Int))]) [(0,_),(5,_)] (fun k vs2=>[EachP (TwoEI 3) ((vs.take k).zip vs2) (pairsMI ws vs.length k),OwnP Rp.val 25 (.slice a42 vs.length c42) (vs2++us.drop k),EachP (TwoEI 3) ((vs.zip us).drop k) ((pairsXI ws vs.length).drop k),EachP (OwnP Rp.i64 3) [] (ws.drop vs.length)]) (fun k vs2=>vs.length - k) (0) ([]) zO zq zq rfl fun k vs2 hx ih=>?_;have hm4:=meltRefl (g:=g);obtain ⟨hx1,hvs2⟩:=hx;refine zz 8 ?_;refine S.cd rfl (fun h126=>?_) fun h126=>?_
    ·have hk:k<vs.length:=by omega
     have hka:k<ws.length:=by omega
     have hku:k<us.length:=by omega
     have hrow:=hbd k hka;have hz:(vs.zip us).drop k=(vs[k],us[k])::(vs.zip us).drop (k+1):=by rw [List.drop_eq_getElem_cons zJ,List.getElem_zip]
     have hp:(pairsXI ws vs.length).drop k=(ws[k],markXI k ws[k].length 64)::(pairsXI ws vs.length).drop (k+1):=by rw [List.drop_eq_getElem_cons (by simp [pairsXI];omega)];simp [pairsXI,hka]
     rw [hz,hp];refine S.eachPop zB ?_;refine S.conv (B:=TwoEI 3 (vs[k],us[k]) (ws[k],markXI k ws[k].length 64)) (C:=OwnP Rp.i64 3 vs[k] ws[k]) zB (fun _ x=>Two.own x) ?_;refine S.factS Sel.here (fun _ x=>OwnP.shape x) fun ⟨ak,ck,hvk⟩=>?_;rw [hvk];refine S.twoStart Sel.here ?_;refine zz 5 ?_;refine O.opE (.p rfl) (.makeP (T:=Rp.i64) (0:Int) (m:=64) underlying25 elem3 zE ⟨rfl,by decide,by decide⟩ rfl rfl rfl rfl zE zE) ?_;rintro _ _ ⟨a129,c129,rfl,rfl⟩;refine zz 8 ?_;refine S.loopK (ι:=Nat) (fun i=>i≤64) (fun i=>[(13,.int .i64 (i:Int))]) [(0,_),(5,_),(11,_),(12,_)] (fun i=>[OwnP Rp.i64 3 (.slice a129 64 c129) (markMI k vs.length i++List.replicate (64 - i) 0),Two Rp.i64 3 (.slice ak ws[k].length ck) ws[k] (.slice ak ws[k].length ck) [],EachP (TwoEI 3) ((vs.zip us).drop (k+1)) ((pairsXI ws vs.length).drop (k+1)),EachP (TwoEI 3) ((vs.take k).zip vs2) (pairsMI ws vs.length k),OwnP Rp.val 25 (.slice a42 vs.length c42) (vs2++us.drop k),EachP (OwnP Rp.i64 3) [] (ws.drop vs.length)]) (fun i=>64 - i) (0) zG zq zq rfl fun i hx ih=>?_;have hm5:=meltRefl (g:=g);refine zz 6 ?_;refine S.cd rfl (fun h131=>?_) fun h131=>?_
     ·have hi:i<64:=by omega
      refine zz 11 ?_;refine O.v0 (.p rfl) rfl zC rfl rfl (mark_c _ _ zH zH) ?_;refine O.opE (.p rfl) (.idxOwn (T:=Rp.i64) underlying25 size3 rfl rfl rfl zB zL) ?_;rintro _ _ ⟨p142,rfl,hp142,rfl⟩;refine O.opU rfl (.storeOwn size3 rfl hp142 rfl zB zL (by exact ⟨rfl,markZ64 zH zH⟩:Rp.rel _ _ _ (markZ ((k:Int)+(vs.length:Int)) (i:Int)))) ?_;refine zz 7 ?_;rw [set_fillI zG hi,markM_succI];exact S.wk (ih (i+1) zD zD)
     ·clear ih
      have hi:i=64:=by omega
      subst hi;rw [Nat.sub_self,List.replicate_zero,List.append_nil];refine S.frzA zB fun g hs hm hmany=>?_;replace hg:=Fr.sub_trans hg hs;replace hR:=melted hR hm
      try replace hls:=hls.mono hs
      try replace hgs:=hgs.mono hs
      replace hm1:=meltTrans hm1 hm;replace hm2:=meltTrans hm2 hm;replace hm3:=meltTrans hm3 hm;replace hm4:=meltTrans hm4 hm;replace hm5:=meltTrans hm5 hm;clear hs hm;refine zz 6 ?_;refine O.iz (hls) (h:=fun p147 cs147 hp147 hr147=>?_);obtain ⟨rfl,_⟩:=hr147;refine zz 1 ?_;refine O.slot 148 (v' :=.slice ak ws[k].length ck) rfl (by exact hvk) ?_;refine O.q 1 rfl<|O.opE (.p rfl) (.appendTwo pure_i64 underlying25 elem3 zE rfl rfl zB hmany zJ zJ) ?_;rintro _ _ ⟨a150,c150,rfl,rfl⟩;refine O.opE (.p rfl) (.idxOwn (T:=Rp.val) underlying102 size25 rfl rfl rfl zB zL) ?_;rintro _ _ ⟨p151,rfl,hp151,rfl⟩;refine O.opU rfl (.storeOwn size25 rfl hp151 rfl zB zL (⟨rfl,rfl⟩:Rp.rel Rp.val _ _ (.slice a150 (ws[k].length+0+(markMI k vs.length 64).length) c150))) ?_;refine zz 7 ?_;rw [set_overI hvs2 hku];simp only [List.nil_append];refine S.conv (B:=Two Rp.i64 3 (.slice ak ws[k].length ck) ws[k] (.slice a150 (ws[k].length+0+(markMI k vs.length 64).length) c150) (markMI k vs.length 64)) (C:=TwoEI 3 (.slice ak ws[k].length ck,.slice a150 (ws[k].length+0+(markMI k vs.length 64).length) c150) (ws[k],markMI k vs.length 64)) zB (fun m x=>⟨m,Fr.sub_refl _,x⟩) ?_;refine S.each (A:=TwoEI 3) (bs:=(vs.take k).zip vs2) zB zB ?_;rw [pairsM_succI ws vs.length k hka,zip_snocI hk hvs2 hvk];exact S.melt hm4 (S.pw (ih (k+1) (vs2++[.slice a150 (ws[k].length+0+(markMI k vs.length 64).length) c150]) zP zD))
    ·clear ih
     have hk:k=vs.length:=by omega
     subst hk;rw [List.take_length,show us.drop vs.length=[] from by rw [← hus,List.drop_length],List.append_nil];refine S.frz (A:=OwnP Rp.val 25 (.slice a42 vs.length c42) vs2) zB fun g1 hs1 hme1 ⟨m1,hm1',hsm1⟩=>?_;refine S.frz (A:=EachP (TwoEI 3) (vs.zip vs2) (pairsMI ws vs.length vs.length)) zB fun g2 hs2 hme2 ⟨m2,hm2',hsm2⟩=>?_;have hgs:Arr Rp.val g2.h (.slice a42 vs.length c42) vs2:=hm1'.arr.mono (Fr.sub_trans hsm1 hs2);replace hls:=hls.mono (Fr.sub_trans hs1 hs2);replace hR:=melted (melted hR hme1) hme2;have htw:=fun k h1 h2 h3=>two_atI hm2' hsm2 rfl hvs2 zD k h1 h2 h3;refine S.pk Picks.nil ?_;refine zz 7 ?_;refine S.loopK (ι:=Nat) (fun k=>k≤vs.length) (fun k=>[(14,.int .i64 (k:Int))]) [(0,_),(5,_)] (fun k=>[]) (fun k=>vs.length - k) (0) zG zq zq rfl fun k hx ih=>?_;have hm5:=meltRefl (g:=g);refine zz 8 ?_;refine S.cd rfl (fun h155=>?_) fun h155=>?_
     ·have hk:k<vs.length:=by omega
      have hka:k<ws.length:=by omega
      have hku:k<vs2.length:=by omega
      have hrow:=hbd k hka;obtain ⟨hA,hB⟩:=htw k hk hku hka;have hB0:=hall k hka;obtain ⟨nk,hnk⟩:∃ nk,ws[k].length=nk:=⟨_,rfl⟩;simp only [hnk] at hB0 hrow;rw [hB0] at hA hB;obtain ⟨ak,ck,hvk⟩:=hA.shape;obtain ⟨au,cu,huk⟩:=hB.shape;rw [hvk] at hA;rw [huk] at hB;simp only [List.length_append,markL_lengthI,markM_lengthI] at hvk huk hA hB;refine zz 8 ?_;refine S.loopK (ι:=Nat) (fun i=>i≤nk) (fun i=>[(15,.int .i64 (i:Int))]) [(0,_),(5,_),(14,_)] (fun i=>[]) (fun i=>nk - i) (0) zG zq zq rfl fun i hx ih=>?_;have hm6:=meltRefl (g:=g);refine zz 6 ?_;refine O.iz (hls) (h:=fun p161 cs161 hp161 hr161=>?_);obtain ⟨rfl,_⟩:=hr161;refine zz 1 ?_;refine O.slot 162 (v' :=.slice ak nk ck) rfl (by exact hvk) ?_;refine zz 3 ?_;refine S.cd rfl (fun h164=>?_) fun h164=>?_
      ·have hi:i<nk:=by omega
       refine S.skip<|S.seq<|S.block<|S.seq<|S.regionD (L:=.range 26) F.mixed zC<|OD.q 2 rfl<|OD.iz (hls) (h:=fun p169 cs169 hp169 hr169=>?_);obtain ⟨rfl,_⟩:=hr169;refine zz 1 ?_;refine OD.slot 170 (v' :=.slice ak nk ck) rfl (by exact hvk) ?_;refine OD.q 1 rfl<|OD.iz (hA) (h:=fun p172 cs172 hp172 hr172=>?_);obtain ⟨rfl,_⟩:=hr172;refine zz 1 ?_;refine OD.q 2 rfl<|OD.v0 (.p rfl) zC rfl zC rfl rfl (mark_c _ _ zH zH) ?_;refine zz 1 ?_;refine OD.sT 177 rfl (by simp [markLI]) ?_;refine zz 4 ?_;refine OD.iz (hgs) (h:=fun p182 cs182 hp182 hr182=>?_);obtain ⟨rfl,_⟩:=hr182;refine zz 1 ?_;refine OD.slot 183 (v' :=.slice au (nk+64) cu) rfl (by exact huk) ?_;refine OD.q 1 rfl<|OD.iz (hB) (h:=fun p185 cs185 hp185 hr185=>?_);obtain ⟨rfl,_⟩:=hr185;refine zz 1 ?_;refine OD.q 2 rfl<|OD.v0 (.g rfl rfl) zC rfl zC rfl rfl (mark_c _ _ zH zH) ?_;refine zz 1 ?_;refine OD.sT 190 rfl (by rw [List.getElem_append_left zJ];simp [markLI]) ?_;refine zz 11 ?_;exact S.wk (ih (i+1) zD zD)
      ·clear ih
       refine zz 7 ?_;exact S.wk (ih (k+1) zD zD)
     ·clear ih
      refine zz 5 ?_;exact S.rt results164 rfl hR ⟨rfl,rfl⟩
abbrev KindsT:Type:=List (List Int) × List (List UInt8) × List (List (List Value)) × List (List (List Value)) × List (List (List Value)) × List (List (List Value)) × List (List (List Value)) × List (List (List Value))
def KindsOk (N:Nat) (s:List BI) (q:KindsT):Prop:=((∀ x∈q.1,x.length≤N)∧q.1.length=(ofK s 2).length)∧((∀ x∈q.2.1,x.length≤N)∧q.2.1.length=(ofK s 5).length)∧((∀ x∈q.2.2.1,x.length≤N)∧q.2.2.1.length=(ofK s 8).length)∧((∀ x∈q.2.2.2.1,x.length≤N)∧q.2.2.2.1.length=(ofK s 9).length)∧((∀ x∈q.2.2.2.2.1,x.length≤N)∧q.2.2.2.2.1.length=(ofK s 10).length)∧((∀ x∈q.2.2.2.2.2.1,x.length≤N)∧q.2.2.2.2.2.1.length=(ofK s 15).length)∧((∀ x∈q.2.2.2.2.2.2.1,x.length≤N)∧q.2.2.2.2.2.2.1.length=(ofK s 16).length)∧((∀ x∈q.2.2.2.2.2.2.2,x.length≤N)∧q.2.2.2.2.2.2.2.length=(ofK s 20).length)
abbrev KindsW (s:List BI) (q:KindsT):List SProp:=[RowsP Rp.i64 3 (ofK s 2) q.1,RowsP Rp.u8 5 (ofK s 5) q.2.1,EachP (OwnP (Rp.cells 2) 166) (ofK s 8) q.2.2.1,EachP (OwnP (Rp.cells 7) 74) (ofK s 9) q.2.2.2.1,EachP (OwnP (Rp.cells 2) 49) (ofK s 10) q.2.2.2.2.1,EachP (OwnP (Rp.cells 5) 52) (ofK s 15) q.2.2.2.2.2.1,EachP (OwnP (Rp.cells 10) 55) (ofK s 16) q.2.2.2.2.2.2.1,EachP (OwnP (Rp.cells 4) 27) (ofK s 20) q.2.2.2.2.2.2.2]
theorem kinds_of {N:Nat} {s:List BI} {m:Fr} (h:EachI (ItemW tys N) s m):∃ q:{q:KindsT // KindsOk N s q},Sat (KindsW s q.1) m:=by
 have st:=EachI.sorts (ks:=[2,5,8,9,10,15,16,20]) zE h;obtain ⟨m0,k0,d0,s0,t0,o0,m1,k1,d1,s1,t1,o1,m2,k2,d2,s2,t2,o2,m3,k3,d3,s3,t3,o3,m4,k4,d4,s4,t4,o4,m5,k5,d5,s5,t5,o5,m6,k6,d6,s6,t6,o6,m7,k7,d7,s7,t7,o7,_⟩:=st;obtain ⟨x0,f0,w0⟩:=kindI o0;obtain ⟨x1,f1,w1⟩:=kindB o1;obtain ⟨x2,f2,w2⟩:=kindW (K:=2) (e:=166) zE zE rfl rfl o2;obtain ⟨x3,f3,w3⟩:=kindW (K:=7) (e:=74) zE zE rfl rfl o3;obtain ⟨x4,f4,w4⟩:=kindW (K:=2) (e:=49) zE zE rfl rfl o4;obtain ⟨x5,f5,w5⟩:=kindW (K:=5) (e:=52) zE zE rfl rfl o5;obtain ⟨x6,f6,w6⟩:=kindW (K:=10) (e:=55) zE zE rfl rfl o6;obtain ⟨x7,f7,w7⟩:=kindW (K:=4) (e:=27) zE zE rfl rfl o7;exact ⟨⟨(x0,x1,x2,x3,x4,x5,x6,x7),f0,f1,f2,f3,f4,f5,f6,f7⟩,m0,k0,d0,s0,t0,w0,m1,k1,d1,s1,t1,w1,m2,k2,d2,s2,t2,w2,m3,k3,d3,s3,t3,w3,m4,k4,d4,s4,t4,w4,m5,k5,d5,s5,t5,w5,m6,k6,d6,s6,t6,w6,m7,k7,d7,s7,t7,w7,trivial⟩
theorem apartG_c {r:Fr} {b:Nat} {s:List BI} (hsz:s.length≤100000000) :
  Con prog 77 #[.pointer (some ⟨b,0,none⟩)] r [BagP b s,EachI (ItemW tys 100000000) s] (Ret fun v η=>v=.bool true∧η=[]):=by
 have hk2:=ofK_len s 2;have hk5:=ofK_len s 5;have hk8:=ofK_len s 8;have hk9:=ofK_len s 9;have hk10:=ofK_len s 10;have hk15:=ofK_len s 15;have hk16:=ofK_len s 16;have hk20:=ofK_len s 20;refine Con.o func77 fun g hg R hR=>?_;refine S.open (α:={q:KindsT // KindsOk 100000000 s q}) (A:=EachI (ItemW tys 100000000) s) (bs:=fun q=>KindsW s q.1) zB (fun m x=>kinds_of x) fun ⟨q,hq⟩=>?_;refine S.open (A:=BagP b s) zB (fun m x=>x) fun p=>?_;simp only [List.cons_append,List.nil_append];obtain ⟨f2,f5,f8,f9,f10,f15,f16,f20⟩:=hq;refine S.frzA zB fun g hs hm l2=>?_;replace hg:=Fr.sub_trans hg hs;replace hR:=melted hR hm;clear hs hm;refine S.frzA zB fun g hs hm l5=>?_;replace hg:=Fr.sub_trans hg hs;replace hR:=melted hR hm
 try replace l2:=l2.mono hs
 clear hs hm;refine S.frzA zB fun g hs hm l8=>?_;replace hg:=Fr.sub_trans hg hs;replace hR:=melted hR hm
 try replace l2:=l2.mono hs
 try replace l5:=l5.mono hs
 clear hs hm;refine S.frzA zB fun g hs hm l9=>?_;replace hg:=Fr.sub_trans hg hs;replace hR:=melted hR hm
 try replace l2:=l2.mono hs
 try replace l5:=l5.mono hs
 try replace l8:=l8.mono hs
 clear hs hm;refine S.frzA zB fun g hs hm l10=>?_;replace hg:=Fr.sub_trans hg hs;replace hR:=melted hR hm
 try replace l2:=l2.mono hs
 try replace l5:=l5.mono hs
 try replace l8:=l8.mono hs
 try replace l9:=l9.mono hs
 clear hs hm;refine S.frzA zB fun g hs hm l15=>?_;replace hg:=Fr.sub_trans hg hs;replace hR:=melted hR hm
 try replace l2:=l2.mono hs
 try replace l5:=l5.mono hs
 try replace l8:=l8.mono hs
 try replace l9:=l9.mono hs
 try replace l10:=l10.mono hs
 clear hs hm;refine S.frzA zB fun g hs hm l16=>?_;replace hg:=Fr.sub_trans hg hs;replace hR:=melted hR hm
 try replace l2:=l2.mono hs
 try replace l5:=l5.mono hs
 try replace l8:=l8.mono hs
 try replace l9:=l9.mono hs
 try replace l10:=l10.mono hs
 try replace l15:=l15.mono hs
 clear hs hm;refine S.frzA zB fun g hs hm l20=>?_;replace hg:=Fr.sub_trans hg hs;replace hR:=melted hR hm
 try replace l2:=l2.mono hs
 try replace l5:=l5.mono hs
 try replace l8:=l8.mono hs
 try replace l9:=l9.mono hs
 try replace l10:=l10.mono hs
 try replace l15:=l15.mono hs
 try replace l16:=l16.mono hs
 clear hs hm;refine zz 10 ?_;refine O.v0 (.p rfl) rfl zC rfl rfl (flatLimbs_0) ?_;refine O.sT 7 rfl zM ?_;refine zz 5 ?_;refine O.v0 (.g rfl rfl) rfl zC rfl rfl (flatWords_0) ?_;refine O.sT 13 rfl zM ?_;refine zz 6 ?_;refine O.vS (.g rfl rfl) rfl zC rfl rfl zB (flatInts_c l2 f2.1 (by have:=f2.2;omega)) ?_;refine O.sT 20 rfl zM ?_;refine zz 6 ?_;refine O.v0 (.g rfl rfl) rfl zC rfl rfl (flatLongs_0) ?_;refine O.sT 27 rfl zM ?_;refine zz 6 ?_;refine O.v0 (.g rfl rfl) rfl zC rfl rfl (flatTexts_0) ?_;refine O.sT 34 rfl zM ?_;refine zz 6 ?_;refine O.vS (.g rfl rfl) rfl zC rfl rfl zB (flatBytes_c l5 f5.1 (by have:=f5.2;omega)) ?_;refine O.sT 41 rfl zM ?_;refine zz 6 ?_;refine O.v0 (.g rfl rfl) rfl zC rfl rfl (flatTruths_0) ?_;refine O.sT 48 rfl zM ?_;refine zz 6 ?_;refine O.v0 (.g rfl rfl) rfl zC rfl rfl (flatRows_0) ?_;refine O.sT 55 rfl zM ?_;refine zz 6 ?_;refine O.callSs (.g rfl rfl) rfl zC rfl rfl zK (flatDots_c l8 f8.1 (by have:=f8.2;omega)) ?_;rintro _ _ ⟨rfl,rfl⟩;refine O.sT 62 rfl zM ?_;refine zz 6 ?_;refine O.callSs (.g rfl rfl) rfl zC rfl rfl zK (flatRecords_c l9 f9.1 (by have:=f9.2;omega)) ?_;rintro _ _ ⟨rfl,rfl⟩;refine O.sT 69 rfl zM ?_;refine zz 6 ?_;refine O.callSs (.g rfl rfl) rfl zC rfl rfl zK (flatLeaves_c l10 f10.1 (by have:=f10.2;omega)) ?_;rintro _ _ ⟨rfl,rfl⟩;refine O.sT 76 rfl zM ?_;refine zz 6 ?_;refine O.v0 (.g rfl rfl) rfl zC rfl rfl (flatGrants_0) ?_
 refine O.sT 83 rfl zM ?_;refine zz 6 ?_;refine O.v0 (.g rfl rfl) rfl zC rfl rfl (flatNodes_0) ?_;refine O.sT 90 rfl zM ?_;refine zz 6 ?_;refine O.v0 (.g rfl rfl) rfl zC rfl rfl (flatStubs_0) ?_;refine O.sT 97 rfl zM ?_;refine zz 6 ?_;refine O.v0 (.g rfl rfl) rfl zC rfl rfl (flatProofs_0) ?_;refine O.sT 104 rfl zM ?_;refine zz 6 ?_;refine O.callSs (.g rfl rfl) rfl zC rfl rfl zK (flatRoots_c l15 f15.1 (by have:=f15.2;omega)) ?_;rintro _ _ ⟨rfl,rfl⟩;refine O.sT 111 rfl zM ?_;refine zz 6 ?_;refine O.callSs (.g rfl rfl) rfl zC rfl rfl zK (flatEvidenceRow_c l16 f16.1 (by have:=f16.2;omega)) ?_;rintro _ _ ⟨rfl,rfl⟩;refine O.sT 118 rfl zM ?_;refine zz 6 ?_;refine O.v0 (.g rfl rfl) rfl zC rfl rfl (flatFrames_0) ?_;refine O.sT 125 rfl zM ?_;refine zz 6 ?_;refine O.v0 (.g rfl rfl) rfl zC rfl rfl (flatPackets_0) ?_;refine O.sT 132 rfl zM ?_;refine zz 6 ?_;refine O.v0 (.g rfl rfl) rfl zC rfl rfl (flatEntries_0) ?_;refine O.sT 139 rfl zM ?_;refine zz 6 ?_;refine O.callSs (.g rfl rfl) rfl zC rfl rfl zK (flatHeldRow_c l20 f20.1 (by have:=f20.2;omega)) ?_;rintro _ _ ⟨rfl,rfl⟩;refine O.sT 146 rfl zM ?_;refine zz 6 ?_;refine O.v0 (.g rfl rfl) rfl zC rfl rfl (flatConfigs_0) ?_;refine O.sT 153 rfl zM ?_;refine zz 6 ?_;refine O.v0 (.g rfl rfl) rfl zC rfl rfl (flatSteps_0) ?_;refine O.sT 160 rfl zM ?_;refine zz 6 ?_;refine O.v0 (.g rfl rfl) rfl zC rfl rfl (flatTales_0) ?_;refine O.sT 167 rfl zM ?_;refine zz 3 ?_
 exact S.rt results77 rfl hR ⟨rfl,rfl⟩
def RecsP (vs:List Value) (n:Nat):SProp:=fun m=>∃ itss,All2 (CollL RecRp 7 9 recOne m) vs itss∧itss.flatten.length≤n∧EachI (ItemW tys 100000000) itss.flatten m
theorem recsP_nil:RecsP [] 0 Fr.emp:=⟨[],trivial,Nat.le_refl _,trivial⟩
theorem recsP_cons {v:Value} {vs:List Value} {l:List RecT} {n k:Nat} (hq:∀ x∈l,recQ 100000000 x) (hl:l.length≤100000000) (hk:1+(l.map fun _=>3).sum≤k) {m:Fr} (st:Sat [ListP (RecG tys) 74 v l,RecsP vs n] m):RecsP (v::vs) (k+n) m:=by
 obtain ⟨m0,k0,d0,s0,t0,o0,m1,_,_,s1,_,⟨itss,a,b,c⟩,_⟩:=st;obtain ⟨it,l0,r0,e0⟩:=gather_list recOne_mono (gRec 100000000) (kind:=9) zE zE rfl rfl rfl hq hl o0;refine ⟨it::itss,⟨CollL.mono recOne_mono s0 r0,All2.imp (fun _ _=>CollL.mono recOne_mono (Fr.sub_trans s1 t0)) a⟩,?_,?_⟩
 ·rw [List.flatten_cons,List.length_append,l0];omega
 ·rw [List.flatten_cons]
  exact EachI.mono (Fr.add_sub s0 (Fr.sub_trans s1 t0)) (EachI.app (Fr.disj_sub d0 (Fr.sub_refl _) s1) e0 c)
theorem recsP_two {v u:Value} {l l' :List RecT} (hq:∀ x∈l,recQ 100000000 x) (hl:l.length≤1000000) (hq' :∀ x∈l',recQ 100000000 x) (hl' :l'.length≤1000000) {m:Fr} (st:Sat [ListP (RecG tys) 74 v l,ListP (RecG tys) 74 u l'] m):RecsP [v,u] (4000000+(4000000+0)) m:=by
 have c1:=sum_leC (fun _:RecT=>3) 3 l fun _ _=>Nat.le_refl _;have c2:=sum_leC (fun _:RecT=>3) 3 l' fun _ _=>Nat.le_refl _;obtain ⟨m1,m2,d,s1,s2,x,y⟩:=st;refine recsP_cons hq zD zD ⟨m1,m2,d,s1,s2,x,m2,Fr.emp,Fr.disj_symm (Fr.emp_disj _),Fr.sub_refl _,Fr.emp_sub _,?_,trivial⟩;obtain ⟨m3,m4,d',s3,s4,y',_⟩:=y;exact recsP_cons hq' zD zD ⟨m3,Fr.emp,Fr.disj_symm (Fr.emp_disj _),s3,Fr.emp_sub _,y',Fr.emp,Fr.emp,Fr.emp_disj _,Fr.sub_refl _,Fr.sub_refl _,recsP_nil,trivial⟩
theorem recQ_of {x:RecT} (h:recOk x=true):recQ 100000000 x:=by
 obtain ⟨h1,h2⟩:=recOk_iff.1 h;obtain ⟨_,_,_,h3,_,h4,_⟩:=shaped_iff.1 h1;have:=rises_len h3;exact ⟨by omega,by omega,by omega⟩
theorem bag_nilR {b:Nat} {m:Fr} (h:Sat [obj b 122 [.slice none 0 0,.slice none 0 0,.slice none 0 0,.slice none 0 0,.slice none 0 0,.slice none 0 0,.slice none 0 0,.slice none 0 0,.slice none 0 0,.slice none 0 0,.slice none 0 0,.slice none 0 0,.slice none 0 0,.slice none 0 0,.slice none 0 0,.slice none 0 0,.slice none 0 0,.slice none 0 0,.slice none 0 0,.slice none 0 0,.slice none 0 0,.slice none 0 0,.slice none 0 0,.slice none 0 0],OwnP Rp.val 25 (.slice none 0 0) [],OwnP Rp.val 31 (.slice none 0 0) [],OwnP Rp.val 72 (.slice none 0 0) [],OwnP Rp.val 47 (.slice none 0 0) [],OwnP Rp.val 22 (.slice none 0 0) [],OwnP Rp.val 23 (.slice none 0 0) [],OwnP Rp.val 24 (.slice none 0 0) [],OwnP Rp.val 45 (.slice none 0 0) []] m):BagP b [] m:=⟨fun _=>(none,0),h⟩
theorem ApartRecords_c {r:Fr} {va:Value} {vs:List Value} {n:Nat} (hls:Arr Rp.val r va vs) (hn:n≤100000000) :
  Con prog 42 #[va] r [RecsP vs n] (Ret fun v η=>v=.bool true∧η=[]):=by
 refine Con.o func42 fun g hg R hR=>?_;have hls:=hls.mono hg;have hbd:=hls.bound;obtain ⟨a1,c1,rfl⟩:=hls.shape;refine S.open (A:=RecsP vs n) (bs:=fun itss=>[fun m=>All2 (CollL RecRp 7 9 recOne m) vs itss∧itss.flatten.length≤n∧EachI (ItemW tys 100000000) itss.flatten m]) Sel.here (fun m ⟨i,x⟩=>⟨i,m,Fr.emp,Fr.disj_symm (Fr.emp_disj _),Fr.sub_refl _,Fr.emp_sub _,x,trivial⟩) fun itss=>?_;simp only [List.cons_append,List.nil_append];refine S.factS Sel.here (fun _ x=>x.2.1) fun hlen=>?_;refine S.factS Sel.here (fun _ x=>x.1.length) fun hll=>?_;refine S.frzT (B:=fun m=>All2 (CollL RecRp 7 9 recOne m) vs itss∧itss.flatten.length≤n∧EachI (ItemW tys 100000000) itss.flatten m) zB fun g1 hs1 ⟨m1,hm1',hsm1⟩ th1=>?_;have hrd:All2 (CollL RecRp 7 9 recOne g1.h) vs itss:=All2.imp (fun _ _=>CollL.mono recOne_mono hsm1) hm1'.1;have hls0:=hls;replace hls:=hls.mono hs1;refine zz 6 ?_;refine O.op (.p rfl) (.build (cs:=[_,_,_,_,_,_,_,_,_,_,_,_,_,_,_,_,_,_,_,_,_,_,_,_]) underlying122 rfl rfl rfl rfl rfl)<|O.opE (.p rfl) (.box (cs:=[_,_,_,_,_,_,_,_,_,_,_,_,_,_,_,_,_,_,_,_,_,_,_,_]) rfl rfl) ?_;rintro _ _ ⟨b6,rfl,rfl⟩;refine zz 8 ?_;refine S.addNil (T:=Rp.val) (e:=45) ?_;refine S.addNil (T:=Rp.val) (e:=24) ?_;refine S.addNil (T:=Rp.val) (e:=23) ?_;refine S.addNil (T:=Rp.val) (e:=22) ?_;refine S.addNil (T:=Rp.val) (e:=47) ?_
 refine S.addNil (T:=Rp.val) (e:=72) ?_;refine S.addNil (T:=Rp.val) (e:=31) ?_;refine S.addNil (T:=Rp.val) (e:=25) ?_;refine S.foldS (A:=BagP b6 []) zK (fun m x=>bag_nilR x) ?_;refine S.loopK (ι:=Nat) (fun k=>k≤vs.length) (fun k=>[(4,.int .i64 (k:Int))]) [(0,_),(3,_)] (fun k=>[BagP b6 (itss.take k).flatten]) (fun k=>vs.length - k) (0) zG zq zq rfl fun k hx ih=>?_;have hm1:=meltRefl (g:=g);refine zz 8 ?_;refine S.cd rfl (fun h10=>?_) fun h10=>?_
 ·have hk:k<vs.length:=by omega
  have hki:k<itss.length:=by omega
  have hle:(itss.take (k+1)).flatten.length≤itss.flatten.length:=flat_leA itss (k+1);have hst:(itss.take k).flatten++itss[k]=(itss.take (k+1)).flatten:=by rw [List.take_succ_eq_append_getElem hki,List.flatten_append,List.flatten_singleton]
  rw [← hst,List.length_append] at hle;have hvk:CollL RecRp 7 9 recOne g1.h vs[k] itss[k]:=hrd.get k hk hki;refine zz 7 ?_;refine O.iz (hls) (h:=fun p16 cs16 hp16 hr16=>?_);obtain ⟨rfl,_⟩:=hr16;refine zz 1 ?_;refine O.vS (.p rfl) rfl zC rfl rfl zB (putRecords_b (va:=vs[k]) hvk zD) ?_;refine zz 7 ?_;rw [hst];exact S.pw (ih (k+1) zD zD)
 ·clear ih
  have hk:k=vs.length:=by omega
  subst hk;rw [hll,List.take_length];refine th1 ?_;replace hls:=hls0;refine S.conv (B:=fun m=>All2 (CollL RecRp 7 9 recOne m) vs itss∧itss.flatten.length≤n∧EachI (ItemW tys 100000000) itss.flatten m) (C:=EachI (ItemW tys 100000000) itss.flatten) zB (fun m x=>⟨m,Fr.sub_refl _,x.2.2⟩) ?_;refine zz 4 ?_;refine O.callSs (.p rfl) rfl zC rfl rfl zK (apartG_c zD) ?_;rintro _ _ ⟨rfl,rfl⟩;refine zz 2 ?_;exact S.rt results42 rfl hR ⟨rfl,rfl⟩
theorem ApartRecords2_c {r:Fr} {va v u:Value} {l l' :List RecT} (hls:Arr Rp.val r va [v,u]) (hq:∀ x∈l,recQ 100000000 x) (hl:l.length≤1000000) (hq' :∀ x∈l',recQ 100000000 x) (hl' :l'.length≤1000000) :
  Con prog 42 #[va] r [ListP (RecG tys) 74 v l,ListP (RecG tys) 74 u l'] (Ret fun v η=>v=.bool true∧η=[]):=fun g hr w hw =>
 ApartRecords_c hls (n:=4000000+(4000000+0)) zE g hr w (hw.imp fun k x=>⟨k,Fr.emp,Fr.disj_symm (Fr.emp_disj _),Fr.sub_refl _,Fr.emp_sub _,recsP_two hq hl hq' hl' x,trivial⟩)
theorem siblingGets_c {r:Fr} {va:Value} {b:List UInt8} (ha:Arr Rp.u8 r va b) :
  Con prog 11 #[va] r [] (Ret fun v η=>v=.bool true∧η=[]):=by
 refine Con.of (n:=58) _ rfl func11 rfl rfl rfl fun g hg R hR=>?_;have ha:=ha.mono hg;obtain ⟨ax,cx,rfl⟩:=ha.shape;refine S.seq<|S.region rfl<|O.q 1 rfl<|O.nil<|S.seq<|S.seq<|S.region rfl<|O.q 1 rfl<|O.op (.p rfl) (.len rfl underlying31 rfl)<|O.op (.p rfl) (.gtr rfl rfl)<|O.nil ?_
 first|refine S.condD rfl (fun h12=>?_) (fun h12=>?_)|refine S.condB rfl (fun h12=>?_) (fun h12=>?_)
 ·refine S.seq<|S.region rfl<|O.call0 (.p rfl) rfl zC rfl rfl (sawake_c) ?_
  rintro _ _ ⟨rfl,rfl⟩
  try simp only [zx1,zx2,zx3]
  refine O.q 1 rfl<|O.nil ?_;exact S.rt results11 rfl hR ⟨rfl,rfl⟩
 ·have hb:b.length≤20000:=by omega
  have hq:∀ x∈setO b,recQ 100000000 x:=fun x hx=>recQ_of (setO_ok zD x hx);have hn:=setO_le hb;refine S.skip<|S.seq<|S.region rfl<|O.q 1 rfl<|O.call0 (.p rfl) rfl zC rfl rfl ((LentBytes_c ha zD)) ?_;rintro _ _ ⟨a15,c15,rfl,rfl⟩
  try simp only [zx1,zx2,zx3]
  refine O.q 1 rfl<|O.nil<|S.seq<|S.frz (A:=LentP 5 (.slice a15 b.length c15) b) zB fun g hs hm ⟨_,x',s'⟩=>?_;have hL:=(fun s x=>LentQA.mono s (LentQ.read x)) s' x';clear x' s';replace hg:=Fr.sub_trans hg hs;replace hR:=melted hR hm
  try replace ha:=ha.mono hs
  clear hs hm;obtain ⟨al,cl,hroom,he,hz⟩:=id hL
  cases he
  have hy:=LentQA.arr hL;clear hL;refine S.region rfl<|O.q 1 rfl<|O.call0 (.p rfl) rfl zC rfl rfl ((sGetU_c hy zD)) ?_;rintro _ _ ⟨a18,c18,rfl,rfl⟩
  try simp only [zx1,zx2,zx3]
  refine O.q 5 rfl<|O.nil<|S.seq<|S.region rfl<|O.q 1 rfl<|O.call0 (.p rfl) rfl zC rfl rfl ((sGetU_c hy zD)) ?_;rintro _ _ ⟨a23,c23,rfl,rfl⟩
  try simp only [zx1,zx2,zx3]
  refine O.q 5 rfl<|O.nil<|S.seq<|S.region rfl<|O.q 1 rfl<|O.call0 (.p rfl) rfl zC rfl rfl ((r9get_c ha zD)) ?_;rintro _ _ ⟨a28,c28,rfl,rfl⟩
  try simp only [zx1,zx2,zx3]
  refine O.q 5 rfl<|O.nil<|S.seq<|S.frzG (T:=RecRp) rfl zB fun g hs hm hw=>?_;replace hg:=Fr.sub_trans hg hs;replace hR:=melted hR hm
  try replace ha:=ha.mono hs
  try replace hL:=hL.mono hs
  try replace hz:=hz.mono hs
  try replace hy:=hy.mono hs
  clear hs hm;refine S.region rfl<|O.q 2 rfl<|O.op (.p rfl) (.eql rfl rfl)<|O.sT 33 rfl zG ?_;refine O.q 3 rfl<|O.callB (.g rfl rfl) rfl zC rfl rfl (bs:=[ListP (RecG tys) 74 (.slice a18 (setO b).length c18) (setO b)]) zK (fun m hm hd=>sameRecords_c ((listP_one hm).right hd) hw.left) ?_;rintro _ _ ⟨rfl,rfl⟩
  try simp only [zx1,zx2,zx3]
  refine O.sT 37 rfl zG ?_;refine O.q 4 rfl<|O.call0 (.g rfl rfl) rfl zC rfl rfl ((KeptBytes_c hz ha zD)) ?_;rintro _ _ ⟨rfl,rfl⟩
  try simp only [zx1,zx2,zx3]
  refine O.q 4 rfl<|O.opE (.g rfl rfl) (.litP (T:=Rp.val) (ys:=[_,_]) underlying65 elem47 zE rfl rfl ⟨⟨rfl,rfl⟩,⟨rfl,rfl⟩,trivial⟩ zE) ?_;rintro _ _ ⟨a47,c47,rfl,rfl⟩;refine O.frzA zB fun g hs hm ha47=>?_;replace hg:=Fr.sub_trans hg hs;replace hR:=melted hR hm
  try replace ha:=ha.mono hs
  try replace hL:=hL.mono hs
  try replace hz:=hz.mono hs
  try replace hy:=hy.mono hs
  try replace hw:=hw.mono hs
  try replace hw:=hw.mono hs
  clear hs hm;refine O.callSs (.g rfl rfl) rfl zC rfl rfl zK (ApartRecords2_c ha47 hq zD hq zD) ?_;rintro _ _ ⟨rfl,rfl⟩
  try simp only [zx1,zx2,zx3]
  refine O.q 4 rfl<|O.call0 (.g rfl rfl) rfl zC rfl rfl ((KeptBytes_c hz ha zD)) ?_;rintro _ _ ⟨rfl,rfl⟩
  try simp only [zx1,zx2,zx3]
  refine O.q 2 rfl<|O.call0 (.g rfl rfl) rfl zC rfl rfl (sawake_c) ?_;rintro _ _ ⟨rfl,rfl⟩
  try simp only [zx1,zx2,zx3]
  refine O.q 2 rfl<|O.nil ?_;exact S.rt results11 rfl hR ⟨rfl,rfl⟩
theorem triedSP_ret {g:Gr} {be bx:Nat} {x:Value} {z:Int} {T1 T2:TypeId} {w:World} {R:Ending→World→Prop} {η:List SProp} (hw:Holds w g (obj bx T1 [x]::obj be T2 [.int .i64 z]::η)) (hR:∀ w,Holds w g (obj bx T1 [x]::obj be T2 [.int .i64 z]::η)→R (.returned (.tuple #[x,.int .i64 z])) w) :
  CallsD prog 222 #[.pointer (some ⟨be,0,none⟩),.pointer (some ⟨bx,0,none⟩)] .returning w (DPost2 prog g bx be 155 32 R):=by
 refine (callsD_rec (R:=fun e w=>(∃ v,e=.returned v)∧Holds w g (obj bx T1 [x]::obj be T2 [.int .i64 z]::η)) [.pointer (some ⟨be,0,none⟩),.pointer (some ⟨bx,0,none⟩)] rfl func222 rfl rfl rfl rfl hw ?_).mono ?_
 rotate_left
 ·rintro e u' w' ⟨rfl,⟨v,rfl⟩,h⟩
  exact ⟨⟨v,rfl⟩,rfl,T1,T2,_,_,_,_,η,h,LoadsAs.flat flat155,LoadsAs.flat flat32,hR w' h⟩
 refine S.seq<|S.region rfl<|O.q 1 rfl<|O.op (.p rfl) (.neqIN underlying20 rfl)<|O.nil<|S.condF rfl<|S.skip<|S.end0 results222 fun w hw=>?_;exact ⟨⟨_,rfl⟩,hw⟩
theorem triedSP_pan {g:Gr} {be bx:Nat} {x:Value} {z z' :Int} {T1 T2:TypeId} {w:World} {R:Ending→World→Prop} {η:List SProp} (hw:Holds w g (obj bx T1 [x]::obj be T2 [.int .i64 z']::η))
  (hR:∀ w,Holds w g (obj bx T1 [.pointer none]::obj be T2 [.int .i64 z]::η)→R (.returned (.tuple #[.pointer none,.int .i64 z])) w) :
  CallsD prog 222 #[.pointer (some ⟨be,0,none⟩),.pointer (some ⟨bx,0,none⟩)] (.panicking (errP 32 z)) w (DPost2 prog g bx be 155 32 R):=by
 refine (callsD_rec (R:=fun e w=>(∃ v,e=.returned v)∧Holds w g (obj bx T1 [.pointer none]::obj be T2 [.int .i64 z]::η)) [.pointer (some ⟨be,0,none⟩),.pointer (some ⟨bx,0,none⟩)] rfl func222 rfl rfl rfl rfl hw ?_).mono ?_
 rotate_left
 ·rintro e u' w' ⟨rfl,⟨v,rfl⟩,h⟩
  exact ⟨⟨v,rfl⟩,rfl,T1,T2,_,_,_,_,η,h,LoadsAs.flat flat155,LoadsAs.flat flat32,hR w' h⟩
 refine zz 3 ?_;refine O.op (.p rfl) (.neqIV underlying20 rfl) ?_;refine zz 10 ?_;refine O.op (.p rfl) (.assertYes underlying32 rfl) ?_;refine zz 20 ?_;refine O.nil<|S.end0 results222 fun w hw=>?_;exact ⟨⟨_,rfl⟩,hw.picks zS⟩
theorem triedSP_c {r:Fr} {f:Nat} {first cap:Array Value} {K:Value→List SProp→Prop} {X:Int→Prop} (hc:callable prog f=true) (hf1:(Value.func (.func f) first cap).oneCell' =true) (hK1:∀ u ζ,K u ζ→u.oneCell' =true)
  (con:Con prog f (first++#[]++cap) r [] (RetP K (fun ch η=>∃ z,ch=errP 32 z∧X z∧η=[]))) :
  Con prog 120 #[.func (.func f) first cap] r [] (Ret fun v η=>(∃ u,K u η∧v=.tuple #[u,.int .i64 0])∨(∃ z,X z∧η=[]∧v=.tuple #[.pointer none,.int .i64 z])):=by
 refine Con.of (n:=7) [.func (.func f) first cap] rfl func120 rfl rfl rfl fun g hg R hR=>?_;refine S.seq<|S.region rfl<|O.opE (.p rfl) (.alloc (cs:=[.pointer none]) zeroValue155 rfl) ?_;rintro _ _ ⟨b2,rfl,rfl⟩;refine O.opE (.p rfl) (.alloc (cs:=[.int .i64 0]) zeroValue32 rfl) ?_;rintro _ _ ⟨b3,rfl,rfl⟩;refine zz 4 ?_;refine O.defer rfl rfl rfl rfl ?_;refine zz 4 ?_;refine O.callP0D (.p rfl) rfl hc rfl rfl (con.sub hg) (fun a ch η' w hF hX hW=>by (obtain ⟨z,rfl,hx,rfl⟩:=hX;exact leavesCell2 results120 hF rfl rfl zG zC (triedSP_pan (hW.picks zS) fun w hw=>Holds.end_ hR hw ⟨_,.inr ⟨z,hx,rfl,rfl⟩,by repeat (first|exact zpa|exact zpn|(apply zpc;focus (repeat (first|exact zh|apply zt)))|apply zps)⟩))) ?_;rintro v6 _ hk6;have hone:=hK1 _ _ hk6;refine O.perm (List.perm_append_comm) ?_;simp only [List.cons_append,List.nil_append];refine zz 2 ?_;refine O.nil<|S.retL fun a w hf hd hw=>?_;exact leavesCell2 results120 hf rfl rfl zG zC (triedSP_ret (hw.picks zS) fun w hw=>Holds.end_ hR hw ⟨_,.inl ⟨_,hk6,rfl⟩,by repeat (first|exact zpa|exact zpn|(apply zpc;focus (repeat (first|exact zh|apply zt)))|apply zps)⟩)
theorem sright1_c {r:Fr} {p:Nat} {va:Value} {xs:List RecT} (hp:At r ⟨p,0,none⟩ [va]) (ha:Arr RecRp r va xs) (hl:xs.length≤100000000000) :
  Con prog 121 (#[]++#[]++#[.pointer (some ⟨p,0,none⟩)]) r [] (RetP (fun v η=>SRight xs∧∃ b,v=.pointer (some ⟨b,0,none⟩)∧η=[RowP r 148 158 5 b xs]) (fun ch η=>∃ z,ch=errP 32 z∧(¬ SRight xs∧z=4)∧η=[])):=by
 refine Con.of (n:=4) [.pointer (some ⟨p,0,none⟩)] rfl func121 rfl rfl rfl fun g hg R hR=>?_;have hp:=hp.mono hg;obtain ⟨a1,c1,rfl⟩:=ha.shape;refine zz 7 ?_;refine O.callP0 (.p rfl) rfl zC rfl rfl (((rowOf_c ha hl).sub hg)) (fun ch η' w hX hW=>by (obtain ⟨hb,rfl,rfl⟩:=hX;exact hR _ _ w ⟨4,rfl,⟨hb,rfl⟩,rfl⟩ hW.drop_all)) ?_;rintro _ _ ⟨hright,b3,rfl,rfl⟩;refine zz 2 ?_;exact S.rt results121 rfl hR ⟨hright,b3,rfl,rfl⟩
theorem sRight_c {r:Fr} {va:Value} {xs:List RecT} (ha:Arr RecRp r va xs) (hl:xs.length≤100000000000) :
  Con prog 45 #[va] r [] (Ret fun v η=>v=.bool (decide (SRight xs))∧η=[]):=by
 refine Con.o func45 fun g hg R hR=>?_;have ha:=ha.mono hg;obtain ⟨a1,c1,rfl⟩:=ha.shape;refine S.seq<|S.region rfl<|O.opE (.p rfl) (.box (cs:=[_]) rfl rfl) ?_;rintro _ _ ⟨b1,rfl,rfl⟩;refine zz 3 ?_;refine S.frzO zB fun g hs hm hb1=>?_;replace hg:=Fr.sub_trans hg hs;replace hR:=melted hR hm
 try replace ha:=ha.mono hs
 clear hs hm;have con:=triedSP_c zC (first:=#[]) (cap:=#[.pointer (some ⟨b1,0,none⟩)]) rfl (fun _ _ h=>by obtain ⟨_,_,rfl,_⟩:=h;rfl) (sright1_c hb1 ha hl)
 by_cases e:SRight xs
 ·
  refine zz 2 ?_;refine O.call0 (.p rfl) rfl zC rfl rfl ((con.mono (Ret.imp (K' :=fun v η=>∃ b,v=.tuple #[.pointer (some ⟨b,0,none⟩),.int .i64 0]∧η=[RowP g.h 148 158 5 b xs]) fun v η h=>by rcases h with ⟨_,⟨_,b,rfl,h3⟩,rfl⟩|⟨_,⟨h2,_⟩,_⟩;exact ⟨b,rfl,h3⟩;exact absurd e h2))) ?_;rintro _ _ ⟨b7,rfl,rfl⟩;refine zz 12 ?_;exact S.rt results45 rfl hR ⟨by simp [e],rfl⟩
 ·
  refine zz 2 ?_;refine O.v0 (.p rfl) rfl zC rfl rfl ((con.mono (Ret.imp (K' :=fun v η=>v=.tuple #[.pointer none,.int .i64 4]∧η=[]) fun v η h=>by rcases h with ⟨_,⟨h2,_⟩,_⟩|⟨_,⟨_,rfl⟩,rfl,rfl⟩;exact absurd h2 e;exact ⟨rfl,rfl⟩))) ?_;refine zz 12 ?_;exact S.rt results45 rfl hR ⟨by simp [e],rfl⟩
theorem recsOk_of {n:Nat} {l:List RecT} (hn:n≤2500) (hc:RecsC n l):l.length≤2500∧∀ x∈l,RecOk 100000000000 x:=by
 refine ⟨Nat.le_trans hc.1 hn,fun x hx=>?_⟩;have:=hc.2 x hx;unfold recN at this;exact ⟨by omega,by omega,by omega,by omega⟩
theorem sOut_le {l:List RecT} (hl:l.length≤2500):(sOut l).length≤10000000:=by
 unfold sOut
 split
 ·rename_i h
  have:=sB_le h.1
  omega
 ·simp
theorem rows_first {e:TypeId} {v w:Value} {xs ys:List UInt8} {m:Fr} (h:Sat [RowsP Rp.u8 e [v,w] [xs,ys]] m):Arr Rp.u8 m v xs:=by
 obtain ⟨m1,_,_,s1,_,x,_⟩:=h;obtain ⟨m2,_,_,s2,_,y,_⟩:=x;exact y.arr.mono (Fr.sub_trans s2 s1)
theorem siblingPuts_c {r:Fr} {va:Value} {xs:List RecT} (ha:Arr RecRp r va xs) (ho:xs.length≤big∧∀ x∈xs,RecOk big x) :
  Con prog 8 #[va] r [] (Ret fun v η=>v=.bool true∧η=[]):=by
 refine Con.of (n:=60) _ rfl func8 rfl rfl rfl fun g hg R hR=>?_;have ha:=ha.mono hg;obtain ⟨ax,cx,rfl⟩:=ha.shape;refine S.seq<|S.region rfl<|O.q 1 rfl<|O.nil<|S.seq<|S.seq<|S.region rfl<|O.q 1 rfl<|O.opE (.p rfl) (.litP (T:=Rp.cells 1) (ys:=[[.slice ax xs.length cx]]) underlying65 elem47 zE rfl rfl ⟨⟨rfl,rfl,by first|(simp;done)|(intro v hv;simp [Value.cells] at hv;rcases hv with rfl|rfl<;>rfl)|(refine List.forall_mem_cons.2 ⟨rfl,?_⟩;repeat (first|exact (fun _ h=>absurd h List.not_mem_nil)|refine List.forall_mem_cons.2 ⟨rfl,?_⟩))⟩,trivial⟩ zE) ?_;rintro _ _ ⟨a11,c11,rfl,rfl⟩;refine O.frzA zB fun g hs hm ha11=>?_;replace hg:=Fr.sub_trans hg hs;replace hR:=melted hR hm
 try replace ha:=ha.mono hs
 clear hs hm;refine O.call0 (.p rfl) rfl zC rfl rfl ((great_c (ss:=[xs]) (Arr.ofCells ha11 ⟨⟨_,rfl,ha⟩,trivial⟩ rfl) (fun l hl=>by rw [List.mem_singleton.1 hl];exact ho) zG)) ?_;rintro v12 _ ⟨gr,rfl,hgr,rfl⟩
 try simp only [zx1,zx2,zx3]
 refine O.nil ?_
 first|refine S.condD rfl (fun h12=>?_) (fun h12=>?_)|refine S.condB rfl (fun h12=>?_) (fun h12=>?_)
 ·refine S.seq<|S.region rfl<|O.call0 (.p rfl) rfl zC rfl rfl (sawake_c) ?_
  rintro _ _ ⟨rfl,rfl⟩
  try simp only [zx1,zx2,zx3]
  refine O.q 1 rfl<|O.nil ?_;exact S.rt results8 rfl hR ⟨rfl,rfl⟩
 ·have hgf:gr=false:=by simpa using h12
  obtain ⟨hl,hk⟩:=recsOk_of (Nat.le_refl _) (hgr hgf xs List.mem_cons_self);have hol:=sOut_le hl;refine S.skip<|S.seq<|S.region rfl<|O.q 1 rfl<|O.call0 (.p rfl) rfl zC rfl rfl ((lentRecords_c ha hk zD)) ?_;rintro _ _ ⟨a15,c15,rfl,rfl⟩
  try simp only [zx1,zx2,zx3]
  refine O.q 1 rfl<|O.nil<|S.seq<|S.frz (A:=LentL (RecL tys) tys.recd (markRec 1) (.slice a15 xs.length c15) xs) zB fun g hs hm ⟨_,x',s'⟩=>?_;have hL:=(fun s x=>LentLA.mono s (LentL.read x)) s' x';clear x' s';replace hg:=Fr.sub_trans hg hs;replace hR:=melted hR hm
  try replace ha:=ha.mono hs
  try replace ha11:=ha11.mono hs
  clear hs hm;have hLr:=LentLA.arr hL;refine S.region rfl<|O.q 1 rfl<|O.call0 (.p rfl) rfl zC rfl rfl ((sPut_c hLr zD)) ?_;rintro _ _ ⟨a18,c18,rfl,rfl⟩
  try simp only [zx1,zx2,zx3]
  refine O.q 5 rfl<|O.nil<|S.seq<|S.region rfl<|O.q 1 rfl<|O.call0 (.p rfl) rfl zC rfl rfl ((sPut_c hLr zD)) ?_;rintro _ _ ⟨a23,c23,rfl,rfl⟩
  try simp only [zx1,zx2,zx3]
  refine O.q 5 rfl<|O.nil<|S.seq<|S.region rfl<|O.q 1 rfl<|O.call0 (.p rfl) rfl zC rfl rfl ((r9put_c ha zD)) ?_;rintro _ _ ⟨a28,c28,rfl,rfl⟩
  try simp only [zx1,zx2,zx3]
  refine O.q 5 rfl<|O.nil<|S.seq<|S.each0 (OwnP Rp.u8 5) ?_;refine S.each (A:=OwnP Rp.u8 5) (b:=.slice a18 (sOut xs).length c18) (a:=sOut xs) zB zB ?_;refine S.each (A:=OwnP Rp.u8 5) (b:=.slice a23 (sOut xs).length c23) (a:=sOut xs) zB zB ?_;simp only [List.nil_append,List.cons_append];refine S.frzA zB fun g hs hm hb=>?_;replace hg:=Fr.sub_trans hg hs;replace hR:=melted hR hm
  try replace ha:=ha.mono hs
  try replace ha11:=ha11.mono hs
  try replace hL:=hL.mono hs
  try replace hL:=hL.mono hs
  try replace hLr:=hLr.mono hs
  clear hs hm;refine S.region rfl<|O.q 2 rfl<|O.op (.p rfl) (.eql rfl rfl)<|O.sT 33 rfl zG ?_;refine O.q 3 rfl<|O.callB (.g rfl rfl) rfl zC rfl rfl (bs:=[RowsP Rp.u8 5 [.slice a18 (sOut xs).length c18,.slice a23 (sOut xs).length c23] [sOut xs,sOut xs]]) zK (fun m hm hd=>SameBytes_c ((rows_first hm).right hd) hb.left) ?_;rintro _ _ ⟨rfl,rfl⟩
  try simp only [zx1,zx2,zx3]
  refine O.sT 37 rfl zG ?_;refine O.q 3 rfl<|O.call0 (.g rfl rfl) rfl zC rfl rfl ((sRight_c hLr zD)) ?_;rintro _ _ ⟨rfl,rfl⟩
  try simp only [zx1,zx2,zx3]
  refine O.q 1 rfl<|O.call0 (.g rfl rfl) rfl zC rfl rfl ((r9right_c ha)) ?_;rintro _ _ ⟨rfl,rfl⟩
  try simp only [zx1,zx2,zx3]
  refine O.op (.g rfl rfl) (.eqlB underlying4 rfl rfl)<|O.sT 44 rfl zG ?_;refine O.q 4 rfl<|O.call0 (.g rfl rfl) rfl zC rfl rfl ((keptRecords_c hL ha hk zD)) ?_;rintro _ _ ⟨rfl,rfl⟩
  try simp only [zx1,zx2,zx3]
  refine O.q 4 rfl<|O.opE (.g rfl rfl) (.litP (T:=Rp.val) (ys:=[_,_]) underlying39 elem31 zE rfl rfl ⟨⟨rfl,rfl⟩,⟨rfl,rfl⟩,trivial⟩ zE) ?_;rintro _ _ ⟨a54,c54,rfl,rfl⟩;refine O.callSs (.g rfl rfl) rfl zC rfl rfl zK (Con.lentW (η:=[RowsP Rp.u8 5 [.slice a18 (sOut xs).length c18,.slice a23 (sOut xs).length c23] [sOut xs,sOut xs]]) (bs:=[OwnP Rp.val 31 (.slice a54 2 c54) [.slice a18 (sOut xs).length c18,.slice a23 (sOut xs).length c23]]) (fun m hm hd=>ApartBytes_c (hm.arr.right hd) zJ zG)) ?_;rintro v55 _ ⟨_,⟨rfl,rfl⟩,rfl⟩
  try simp only [zx1,zx2,zx3]
  refine O.q 2 rfl<|O.call0 (.g rfl rfl) rfl zC rfl rfl (sawake_c) ?_;rintro _ _ ⟨rfl,rfl⟩
  try simp only [zx1,zx2,zx3]
  refine O.q 2 rfl<|O.nil ?_;exact S.rt results8 rfl hR ⟨rfl,rfl⟩
theorem CopyBytes_c {r:Fr} {va:Value} {xs:List UInt8} (ha:Arr Rp.u8 r va xs) (hl:xs.length≤140737488355328) :
  Con prog 32 #[va] r [] (Ret fun v η=>∃ a c,v=.slice a xs.length c∧η=[OwnP Rp.u8 5 v xs]):=by
 refine Con.o func32 fun g hg R hR=>?_;obtain ⟨a1,c1,rfl⟩:=ha.shape;refine S.addNil (T:=Rp.u8) (e:=5) ?_;refine zz 12 ?_;refine O.opE (.p rfl) (.appendP (T:=Rp.u8) pure_u8 underlying31 elem5 zE rfl rfl zB zA zI zI) ?_;rintro _ _ ⟨a6,c6,rfl,rfl⟩;refine O.q 1 rfl<|O.nil<|S.ret results32 rfl fun w hw=>hR _ _ w ?_ hw;exact ⟨a6,c6,by simp,rfl⟩
def pick (x n:Int):Int:=if n<1 then 0 else if x.tmod n<0 then x.tmod n+n else x.tmod n
theorem copyDots_c {r:Fr} {va:Value} {xs:List DotT} (ha:Arr DotRp r va xs) (hl:xs.length≤1000000000000) :
  Con prog 217 #[va] r [] (Ret fun v η=>∃ a c,v=.slice a xs.length c∧η=[OwnP DotRp 166 v xs]):=by
 refine Con.of (n:=7) _ rfl func217 rfl rfl rfl fun g hg R hR=>?_;obtain ⟨a1,c1,rfl⟩:=ha.shape;refine S.addNil (T:=DotRp) (e:=166) ?_;refine S.seq<|S.region rfl<|O.q 1 rfl<|O.nil<|S.seq<|S.region rfl<|O.q 1 rfl<|O.nil<|S.seq<|S.region rfl<|O.q 2 rfl<|O.opE (.p rfl) (.appendP (T:=DotRp) pure_Dot underlying72 elem166 zE rfl rfl zB (by first|assumption|exact Arr.mono hg zF|exact Arr.left zF|exact Arr.left (Arr.mono hg zF)) zI zI) ?_;rintro _ _ ⟨a6,c6,rfl,rfl⟩;refine O.q 1 rfl<|O.nil<|S.ret results217 rfl fun w hw=>hR _ _ w ?_ hw;exact ⟨a6,c6,by simp,rfl⟩
theorem copyRecord_c {r:Fr} {cs:List Value} {x:RecT} (h:RecRp.rel r cs x) (hb:recOk x=true) :
  Con prog 111 #[.agg cs.toArray] r [] (Ret fun v η=>∃ a3 c3 a5 c5 a6 c6,v=.agg (recV x (.slice a3 x.2.2.2.1.length c3) (.slice a5 x.2.2.2.2.2.1.length c5) (.slice a6 x.2.2.2.2.2.2.1.length c6)).toArray∧η=[(RecG tys).own (recV x (.slice a3 x.2.2.2.1.length c3) (.slice a5 x.2.2.2.2.2.1.length c5) (.slice a6 x.2.2.2.2.2.2.1.length c6)) x]):=by
 obtain ⟨xa3,xa5,xa6,xc3,xc5,xc6,rfl,k0,k1,k2,k3,k5,k6⟩:=RecRp.sh h;obtain ⟨q1,q2⟩:=recOk_iff.1 hb;obtain ⟨_,_,_,q3,_,q4,_⟩:=shaped_iff.1 q1;have ob3:=rises_len q3;refine Con.of (n:=16) _ rfl func111 rfl rfl rfl fun g hg R hR=>?_;have k3:=k3.mono hg;have k5:=k5.mono hg;have k6:=k6.mono hg;refine S.seq<|S.region rfl<|O.opE (.p rfl) (.box (cs:=[_,_,_,_,_,_,_]) rfl rfl) ?_;rintro _ _ ⟨b1,rfl,rfl⟩;refine O.opE (.p rfl) (.alloc (cs:=[.string ⟨#[]⟩,.int .i64 0,.int .i64 0,.slice none 0 0,.bool false,.slice none 0 0,.slice none 0 0]) zeroValue74 rfl) ?_;rintro _ _ ⟨b2,rfl,rfl⟩;refine O.nil<|S.seq<|S.region rfl<|O.op (.p rfl) (.fieldObj fld74x3 rfl)<|O.op (.p rfl) (.lo flat72) ?_;refine O.call0 (.p rfl) rfl zC rfl rfl ((copyDots_c k3 zD)) ?_;rintro _ _ ⟨a3,c3,rfl,rfl⟩
 try simp only [zx1,zx2,zx3]
 refine O.op (.p rfl) (.fieldObj fld74x3 rfl)<|O.opU rfl (.store1 flat72 rfl rfl zU zB zT) ?_;refine O.nil<|S.seq<|S.region rfl<|O.op (.p rfl) (.fieldObj fld74x5 rfl)<|O.op (.p rfl) (.lo flat31) ?_;refine O.call0 (.p rfl) rfl zC rfl rfl ((CopyBytes_c k5 zD)) ?_;rintro _ _ ⟨a5,c5,rfl,rfl⟩
 try simp only [zx1,zx2,zx3]
 refine O.op (.p rfl) (.fieldObj fld74x5 rfl)<|O.opU rfl (.store1 flat31 rfl rfl zU zB zT) ?_;refine O.nil<|S.seq<|S.region rfl<|O.op (.p rfl) (.fieldObj fld74x6 rfl)<|O.op (.p rfl) (.lo flat31) ?_;refine O.call0 (.p rfl) rfl zC rfl rfl ((CopyBytes_c k6 zD)) ?_;rintro _ _ ⟨a6,c6,rfl,rfl⟩
 try simp only [zx1,zx2,zx3]
 refine O.op (.p rfl) (.fieldObj fld74x6 rfl)<|O.opU rfl (.store1 flat31 rfl rfl zU zB zT) ?_;refine O.nil<|S.seq<|S.region rfl<|O.op (.p rfl) (.loA (news:=[_,_,_,_,_,_,_]) isAgg74) ?_;refine O.opU rfl (.storeObj zC rfl rfl rfl rfl zB zT) ?_;refine O.nil<|S.foldS (A:=(RecG tys).own (recV x (.slice a3 x.2.2.2.1.length c3) (.slice a5 x.2.2.2.2.2.1.length c5) (.slice a6 x.2.2.2.2.2.2.1.length c6)) x) (bs:=recWs x (.slice a3 x.2.2.2.1.length c3) (.slice a5 x.2.2.2.2.2.1.length c5) (.slice a6 x.2.2.2.2.2.2.1.length c6)) zK (fun m h=>recG_sat hb h) ?_;refine S.retCellAgg results111 isAgg74 zC rfl zB fun w hw=>Holds.end_ hR hw ?_;exact pk ⟨a3,c3,a5,c5,a6,c6,rfl,rfl⟩
end Go.Proofs.YtodhbhanmdfdeaaGreat
