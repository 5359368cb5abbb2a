/- Texts of this proof. -/
import Derived.Test.YtodhbhanmdfdeaaGreatQKit4
open Go Go.Sp Go.Proofs.Tryz
set_option maxRecDepth 100000
set_option maxHeartbeats 1000000
attribute [local irreducible] obj Own OwnP
namespace Go.Proofs.YtodhbhanmdfdeaaGreat
def markL (k n:Nat):List UInt8:=(List.range n).map fun (i:Nat)=>markB (k:Int) (i:Int)
@[simp] theorem markL_length (k n:Nat):(markL k n).length=n:=by simp [markL]
theorem markL_succ (k n:Nat):markL k n++[markB (k:Int) (n:Int)]=markL k (n+1):=by simp [markL,List.range_succ]
theorem markL_set (k:Nat) (zs:List UInt8) (i:Nat) (h:i<zs.length):(markL k i++zs.drop i).set i (markB (k:Int) (i:Int))=markL k (i+1)++zs.drop (i+1):=by
 rw [List.set_append_right _ _ zG,markL_length,Nat.sub_self,List.drop_eq_getElem_cons h,List.set_cons_zero,← markL_succ];simp
def markX (k n i:Nat):List UInt8:=(List.range i).map fun (q:Nat)=>markB (k:Int) ((n:Int)+(q:Int))
@[simp] theorem markX_length (k n i:Nat):(markX k n i).length=i:=by simp [markX]
theorem markX_succ (k n i:Nat):markX k n i++[markB (k:Int) ((n:Int)+(i:Int))]=markX k n (i+1):=by simp [markX,List.range_succ]
theorem markLX (k n i:Nat):markL k n++markX k n i=markL k (n+i):=by
 induction i with
 |zero=>simp [markX]
 |succ i ih=>rw [← markX_succ,← List.append_assoc,ih,← Nat.add_assoc,← markL_succ];simp
def Marked (xss:List (List UInt8)) (k:Nat) (ws:List (List UInt8)):Prop:=ws.map List.length=xss.map List.length∧∀ (j:Nat) (h:j<ws.length),j<k→ws[j]=markL j ws[j].length
theorem Marked.len {xss ws:List (List UInt8)} {k:Nat} (h:Marked xss k ws):ws.length=xss.length:=by simpa using congrArg List.length h.1
theorem Marked.bd {xss ws:List (List UInt8)} {k b:Nat} (h:Marked xss k ws) (hb:∀ x∈xss,x.length≤b) (j:Nat) (hj:j<ws.length):ws[j].length≤b:=by
 have h1:(ws.map List.length)[j]'(by simpa using hj)=(xss.map List.length)[j]'(by simpa [← h.len] using hj):=getElem_congr_coll h.1;simp only [List.getElem_map] at h1;rw [h1];exact hb _ (List.getElem_mem _)
theorem Marked.set {xss ws:List (List UInt8)} {k:Nat} (h:Marked xss k ws) (hk:k<ws.length):Marked xss (k+1) (ws.set k (markL k ws[k].length)):=by
 refine ⟨?_,fun j hj hjk=>?_⟩
 ·rw [← h.1]
  refine List.ext_getElem zG fun i h1 h2=>?_;simp only [List.getElem_map,List.getElem_set]
  split
  ·rename_i e;subst e;simp
  ·rfl
 ·rw [List.getElem_set]
  split
  ·rename_i e;subst e;simp
  ·exact h.2 j (by simpa using hj) zD
def TwoE (e:TypeId) (p:Value × Value) (x:List UInt8 × List UInt8):SProp:=Two Rp.u8 e p.1 x.1 p.2 x.2
def pairsX (ws:List (List UInt8)) (k:Nat):List (List UInt8 × List UInt8):=(List.range k).map fun j=>(ws[j]?.getD [],markX j (ws[j]?.getD []).length 64)
theorem pairsX_succ (ws:List (List UInt8)) (k:Nat) (h:k<ws.length):pairsX ws k++[(ws[k],markX k ws[k].length 64)]=pairsX ws (k+1):=by simp [pairsX,List.range_succ,h]
def markM (j n i:Nat):List UInt8:=(List.range i).map fun (q:Nat)=>markB ((j:Int)+(n:Int)) (q:Int)
@[simp] theorem markM_length (j n i:Nat):(markM j n i).length=i:=by simp [markM]
theorem markM_succ (j n i:Nat):markM j n i++[markB ((j:Int)+(n:Int)) (i:Int)]=markM j n (i+1):=by simp [markM,List.range_succ]
def pairsM (ws:List (List UInt8)) (n k:Nat):List (List UInt8 × List UInt8):=(List.range k).map fun j=>(ws[j]?.getD [],markM j n 64)
theorem pairsM_succ (ws:List (List UInt8)) (n k:Nat) (h:k<ws.length):pairsM ws n k++[(ws[k],markM k n 64)]=pairsM ws n (k+1):=by simp [pairsM,List.range_succ,h]
theorem zip_snoc {vs us:List Value} {k:Nat} {v u:Value} (hk:k<vs.length) (hu:us.length=k) (hv:vs[k]=v):(vs.take k).zip us++[(v,u)]=(vs.take (k+1)).zip (us++[u]):=by
 rw [List.take_succ_eq_append_getElem hk,List.zip_append zJ,hv];rfl
theorem set_fill {α:Type} {us:List α} {z u:α} {n k:Nat} (hu:us.length=k) (hk:k<n):(us++List.replicate (n - k) z).set k u=(us++[u])++List.replicate (n - (k+1)) z:=by
 rw [List.set_append_right _ _ zD,hu,Nat.sub_self];obtain ⟨m,hm⟩:∃ m,n - k=m+1:=⟨n - k - 1,by omega⟩;rw [hm,List.replicate_succ,List.set_cons_zero,show n - (k+1)=m from by omega];simp
theorem set_over {α:Type} {us us2:List α} {u:α} {k:Nat} (hu:us.length=k) (hk:k<us2.length):(us++us2.drop k).set k u=(us++[u])++us2.drop (k+1):=by
 rw [List.set_append_right _ _ zD,hu,Nat.sub_self,List.drop_eq_getElem_cons hk,List.set_cons_zero];simp
theorem two_at {g:Fr} {vs us:List Value} {ws:List (List UInt8)} {n:Nat} {f:Nat→List UInt8} {m:Fr} {e:TypeId} (hm:EachP (TwoE e) (vs.zip us) ((List.range n).map fun j=>(ws[j]?.getD [],f j)) m) (hs:m.sub g) (hv:vs.length=n) (hu:us.length=n) (ha:ws.length=n)
  (k:Nat) (h1:k<vs.length) (h2:k<us.length) (h3:k<ws.length):Arr Rp.u8 g vs[k] ws[k]∧Arr Rp.u8 g us[k] (ws[k]++f k):=by
 have h:=EachP.all2 (R:=fun (p:Value × Value) (x:List UInt8 × List UInt8)=>Arr Rp.u8 g p.1 x.1∧Arr Rp.u8 g p.2 (x.1++x.2)) (fun b a m' (x:Two _ _ _ _ _ _ m') s=>⟨(Two.arr x).1.mono s,(Two.arr x).2.mono s⟩) hm hs;have h4:=h.get k zJ zJ
 simpa [h3] using h4
theorem flatBytes_c {r:Fr} {va:Value} {vs:List Value} {xss:List (List UInt8)} (hls:Arr Rp.val r va vs) (hq:∀ x∈xss,x.length≤100000000) (hb:xss.length≤100000000) :
  Con prog 167 #[va] r [RowsP Rp.u8 5 vs xss] (Ret fun v η=>v=.bool true∧η=[]):=by
 refine Con.o func167 fun g hg R hR=>?_;have hls:=hls.mono hg;obtain ⟨a1,c1,rfl⟩:=hls.shape;refine S.factS Sel.here (fun _ x=>EachP.len x) fun hlen=>?_;refine zz 10 ?_;refine S.loopK2 (ι:=Nat) (κ:=List (List UInt8)) (fun k ws=>k≤vs.length∧Marked xss k ws) (fun k ws=>[(3,.int .i64 (k:Int))]) [(0,_)] (fun k ws=>[RowsP Rp.u8 5 vs ws]) (fun k ws=>vs.length - k) (0) (xss) (by exact ⟨by simp,rfl,fun j _ h=>absurd h zD⟩) zq zq rfl fun k ws hx ih=>?_;have hm1:=meltRefl (g:=g);obtain ⟨hx1,hm⟩:=hx;have hal:=hm.len;refine zz 8 ?_;refine S.cd rfl (fun h19=>?_) fun h19=>?_
 ·have hk:k<vs.length:=by omega
  have hka:k<ws.length:=by omega
  have hrow:=hm.bd hq k hka;refine S.eachAt k hk hka zB ?_;refine S.factS Sel.here (fun _ x=>OwnP.shape x) fun ⟨ak,ck,hvk⟩=>?_;refine zz 8 ?_;refine S.conv (B:=OwnP Rp.u8 5 vs[k] ws[k]) (C:=OwnP Rp.u8 5 vs[k] (markL k 0++ws[k].drop 0)) zB (fun m x=>⟨m,Fr.sub_refl _,by simpa [markL] using x⟩) ?_;refine S.loopK (ι:=Nat) (fun i=>i≤ws[k].length) (fun i=>[(4,.int .i64 (i:Int))]) [(0,_),(3,_)] (fun i=>[OwnP Rp.u8 5 vs[k] (markL k i++ws[k].drop i),EachP (OwnP Rp.u8 5) (vs.eraseIdx k) (ws.eraseIdx k)]) (fun i=>ws[k].length - i) (0) zG zq zq rfl fun i hx ih=>?_;have hm2:=meltRefl (g:=g);refine zz 6 ?_;refine O.iz (hls) (h:=fun p25 cs25 hp25 hr25=>?_);obtain ⟨rfl,_⟩:=hr25;refine zz 1 ?_;refine O.slot 26 (v' :=.slice ak ws[k].length ck) rfl (by exact hvk) ?_;refine zz 3 ?_;refine S.cd rfl (fun h28=>?_) fun h28=>?_
  ·have hi:i<ws[k].length:=by omega
   refine S.skip<|S.seq<|S.block<|S.regionD (L:=.range 10) F.mixed zC<|OD.q 2 rfl<|OD.iz (hls) (h:=fun p33 cs33 hp33 hr33=>?_);obtain ⟨rfl,_⟩:=hr33;refine zz 1 ?_;refine OD.q 3 rfl<|OD.v0 (.p rfl) zC rfl zC rfl rfl (markByte_c _ _ zH zH) ?_;refine OD.idxOwn (T:=Rp.u8) (.p rfl) zC underlying31 size5 rfl rfl rfl zB zL (fun p39 hp39=>?_);refine OD.storeOwn rfl zC size5 rfl hp39 rfl zB zL (show _=_ by rfl:Rp.rel _ _ _ (markB (k:Int) (i:Int))) ?_;refine zz 7 ?_;rw [markL_set k ws[k] i hi];exact S.wk (ih (i+1) zD zD)
  ·clear ih
   have hi:i=ws[k].length:=by omega
   subst hi;rw [List.drop_length,List.append_nil];refine S.eachPut k hk hka (a' :=markL k ws[k].length) zB zB ?_;refine zz 7 ?_;exact S.wk (ih (k+1) (ws.set k (markL k ws[k].length)) (by exact ⟨by omega,hm.set hka⟩) zD)
 ·have hk:k=vs.length:=by omega
  subst hk;have hall:∀ (j:Nat) (h:j<ws.length),ws[j]=markL j ws[j].length:=fun j h=>hm.2 j h zD;have hbd:=hm.bd hq;clear ih hm;refine zz 5 ?_;refine O.opE (.p rfl) (.makeP (T:=Rp.val) (.slice none 0 0) (m:=vs.length) underlying39 elem31 zE ⟨rfl,rfl⟩ rfl rfl rfl rfl zD zD) ?_;rintro _ _ ⟨a42,c42,rfl,rfl⟩;refine zz 8 ?_;refine S.each0 (TwoE 5) ?_;refine S.loopK2 (ι:=Nat) (κ:=List Value) (fun k us=>k≤vs.length∧us.length=k) (fun k us=>[(6,.int .i64 (k:Int))]) [(0,_),(5,_)] (fun k us=>[EachP (TwoE 5) ((vs.take k).zip us) (pairsX ws k),OwnP Rp.val 31 (.slice a42 vs.length c42) (us++List.replicate (vs.length - k) (.slice none 0 0)),EachP (OwnP Rp.u8 5) (vs.drop k) (ws.drop k)]) (fun k us=>vs.length - k) (0) ([]) zO zq zq rfl fun k us hx ih=>?_;have hm2:=meltRefl (g:=g);obtain ⟨hx1,hus⟩:=hx;refine zz 8 ?_;refine S.cd rfl (fun h46=>?_) fun h46=>?_
  ·have hk:k<vs.length:=by omega
   have hka:k<ws.length:=by omega
   have hrow:=hbd k hka;rw [List.drop_eq_getElem_cons hk,List.drop_eq_getElem_cons hka];refine S.eachPop zB ?_;refine S.factS Sel.here (fun _ x=>OwnP.shape x) fun ⟨ak,ck,hvk⟩=>?_;rw [hvk];refine S.twoStart Sel.here ?_;refine zz 7 ?_;refine O.iz (hls) (h:=fun p51 cs51 hp51 hr51=>?_);obtain ⟨rfl,_⟩:=hr51;refine zz 1 ?_;refine O.slot 52 (v' :=.slice ak ws[k].length ck) rfl (by exact hvk) ?_;refine zz 8 ?_;refine S.loopK3 (ι:=Nat) (κ:=Option Addr) (υ:=Nat) (fun i a c=>i≤64) (fun i a c=>[(8,.int .i64 (i:Int)),(7,.slice a (ws[k].length+i) c)]) [(0,_),(5,_),(6,_)] (fun i a c=>[Two Rp.u8 5 (.slice ak ws[k].length ck) ws[k] (.slice a (ws[k].length+i) c) (markX k ws[k].length i),EachP (OwnP Rp.u8 5) (vs.drop (k+1)) (ws.drop (k+1)),EachP (TwoE 5) ((vs.take k).zip us) (pairsX ws k),OwnP Rp.val 31 (.slice a42 vs.length c42) (us++List.replicate (vs.length - k) (.slice none 0 0))]) (fun i a c=>64 - i) (0) (ak) (ck) zG zq zq rfl fun i a c hx ih=>?_;have hm3:=meltRefl (g:=g);refine zz 6 ?_;refine S.cd rfl (fun h54=>?_) fun h54=>?_
   ·have hi:i<64:=by omega
    refine zz 8 ?_;refine O.iz (hls) (h:=fun p61 cs61 hp61 hr61=>?_);obtain ⟨rfl,_⟩:=hr61;refine zz 1 ?_;refine O.slot 62 (v' :=.slice ak ws[k].length ck) rfl (by exact hvk) ?_;refine zz 3 ?_;refine O.v0 (.p rfl) rfl zC rfl rfl (markByte_c _ _ zH zH) ?_;refine O.opE (.p rfl) (.litP (T:=Rp.u8) (ys:=[_]) underlying31 elem5 zE rfl rfl ⟨rfl,trivial⟩ zE) ?_;rintro _ _ ⟨a67,c67,rfl,rfl⟩;refine O.frzA zB fun g hs hm ha67=>?_;replace hg:=Fr.sub_trans hg hs;replace hR:=melted hR hm
    try replace hls:=hls.mono hs
    try replace hp51:=hp51.mono hs
    try replace hp61:=hp61.mono hs
    replace hm1:=meltTrans hm1 hm;replace hm2:=meltTrans hm2 hm;replace hm3:=meltTrans hm3 hm;clear hs hm;refine O.opE (.p rfl) (.appendTwo pure_u8 underlying31 elem5 zE rfl rfl zB ha67 zJ zJ) ?_;rintro _ _ ⟨a68,c68,rfl,rfl⟩;refine zz 8 ?_;rw [markX_succ];simp only [markX_length];exact S.melt hm3 (S.wk (ih (i+1) (a68) (c68) zD zD))
   ·clear ih
    have hi:i=64:=by omega
    subst hi;refine zz 5 ?_;refine O.opE (.p rfl) (.idxOwn (T:=Rp.val) underlying39 size31 rfl rfl rfl zB zL) ?_;rintro _ _ ⟨p72,rfl,hp72,rfl⟩;refine O.opU rfl (.storeOwn size31 rfl hp72 rfl zB zL (⟨rfl,rfl⟩:Rp.rel Rp.val _ _ (.slice a (ws[k].length+64) c))) ?_;refine zz 7 ?_;rw [set_fill hus hk];refine S.conv (B:=Two Rp.u8 5 (.slice ak ws[k].length ck) ws[k] (.slice a (ws[k].length+64) c) (markX k ws[k].length 64)) (C:=TwoE 5 (.slice ak ws[k].length ck,.slice a (ws[k].length+64) c) (ws[k],markX k ws[k].length 64)) zB (fun m x=>⟨m,Fr.sub_refl _,x⟩) ?_;refine S.each (A:=TwoE 5) zB zB ?_;rw [pairsX_succ ws k hka,zip_snoc hk hus hvk];exact S.pw (ih (k+1) (us++[.slice a (ws[k].length+64) c]) zP zD)
  ·clear ih
   have hk:k=vs.length:=by omega
   subst hk;rw [List.take_length,Nat.sub_self,List.replicate_zero,List.append_nil,List.drop_length];refine zz 7 ?_;refine S.frzT (B:=OwnP Rp.val 31 (.slice a42 vs.length c42) us) zB fun g1 hs1 ⟨m1,hm1',hsm1⟩ th1=>?_;refine S.frzT (B:=EachP (TwoE 5) (vs.zip us) (pairsX ws vs.length)) zB fun g2 hs2 ⟨m2,hm2',hsm2⟩ th2=>?_;have hgs:Arr Rp.val g2.h (.slice a42 vs.length c42) us:=hm1'.arr.mono (Fr.sub_trans hsm1 hs2);have hls0:=hls;replace hls:=hls.mono (Fr.sub_trans hs1 hs2);have htw:=fun k h1 h2 h3=>two_at hm2' hsm2 rfl hus zD k h1 h2 h3;refine S.loopK (ι:=Nat) (fun k=>k≤vs.length) (fun k=>[(9,.int .i64 (k:Int))]) [(0,_),(5,_)] (fun k=>[EachP (OwnP Rp.u8 5) [] (ws.drop vs.length)]) (fun k=>vs.length - k) (0) zG zq zq rfl fun k hx ih=>?_;have hm3:=meltRefl (g:=g);refine zz 8 ?_;refine S.cd rfl (fun h76=>?_) fun h76=>?_
   ·have hk:k<vs.length:=by omega
    have hka:k<ws.length:=by omega
    have hku:k<us.length:=by omega
    have hrow:=hbd k hka;obtain ⟨hA,hB⟩:=htw k hk hku hka;rw [show (ws[k]?.getD [])=ws[k] from by simp [hka]] at hB;have hB0:=hall k hka;obtain ⟨nk,hnk⟩:∃ nk,ws[k].length=nk:=⟨_,rfl⟩;simp only [hnk] at hB0 hrow hB;rw [hB0] at hA hB;rw [markLX] at hB;obtain ⟨ak,ck,hvk⟩:=hA.shape;obtain ⟨au,cu,huk⟩:=hB.shape;rw [hvk] at hA;rw [huk] at hB;rw [markL_length] at hvk huk hA hB;refine zz 8 ?_;refine S.loopK (ι:=Nat) (fun i=>i≤nk+64) (fun i=>[(10,.int .i64 (i:Int))]) [(0,_),(5,_),(9,_)] (fun i=>[EachP (OwnP Rp.u8 5) [] (ws.drop vs.length)]) (fun i=>nk+64 - i) (0) zG zq zq rfl fun i hx ih=>?_;have hm4:=meltRefl (g:=g);refine zz 6 ?_;refine O.iz (hgs) (h:=fun p82 cs82 hp82 hr82=>?_);obtain ⟨rfl,_⟩:=hr82;refine zz 1 ?_;refine O.slot 83 (v' :=.slice au (nk+64) cu) rfl (by exact huk) ?_;refine zz 3 ?_;refine S.cd rfl (fun h85=>?_) fun h85=>?_
    ·have hi:i<nk+64:=by omega
     refine S.skip<|S.seq<|S.block<|S.seq<|S.regionD (L:=.range 35) F.mixed zC<|OD.q 2 rfl<|OD.iz (hgs) (h:=fun p90 cs90 hp90 hr90=>?_);obtain ⟨rfl,_⟩:=hr90;refine zz 1 ?_;refine OD.slot 91 (v' :=.slice au (nk+64) cu) rfl (by exact huk) ?_;refine OD.q 1 rfl<|OD.iz (hB) (h:=fun p93 cs93 hp93 hr93=>?_);obtain ⟨rfl,_⟩:=hr93;refine zz 1 ?_;refine OD.q 2 rfl<|OD.v0 (.p rfl) zC rfl zC rfl rfl (markByte_c _ _ zH zH) ?_;refine zz 1 ?_;refine OD.sT 98 rfl (by simp [markL]) ?_;refine zz 5 ?_;refine OD.iz (hls) (h:=fun p104 cs104 hp104 hr104=>?_);obtain ⟨rfl,_⟩:=hr104;refine zz 1 ?_;refine OD.slot 105 (v' :=.slice ak nk ck) rfl (by exact hvk) ?_;refine zz 3 ?_
     first|refine OD.caseD 108 rfl (fun h108=>?_) (fun h108=>?_)|refine OD.caseB 108 rfl (fun h108=>?_) (fun h108=>?_)
     ·have hi2:i<nk:=by omega
      refine OD.q 2 rfl<|OD.iz (hls) (h:=fun p111 cs111 hp111 hr111=>?_);obtain ⟨rfl,_⟩:=hr111;refine zz 1 ?_;refine OD.slot 112 (v' :=.slice ak nk ck) rfl (by exact hvk) ?_;refine OD.q 1 rfl<|OD.iz (hA) (h:=fun p114 cs114 hp114 hr114=>?_);obtain ⟨rfl,_⟩:=hr114;refine zz 1 ?_;refine OD.q 2 rfl<|OD.v0 (.g rfl rfl) zC rfl zC rfl rfl (markByte_c _ _ zH zH) ?_;refine zz 1 ?_;refine OD.sT 119 rfl (by simp [markL]) ?_;refine zz 12 ?_;exact S.wk (ih (i+1) zD zD)
     ·refine zz 23 ?_
      exact S.wk (ih (i+1) zD zD)
    ·clear ih
     refine zz 7 ?_;exact S.wk (ih (k+1) zD zD)
   ·clear ih
    refine zz 7 ?_;refine th2 (th1 ?_);replace hls:=hls0;clear htw hgs hls0;refine S.each0 (TwoE 5) ?_;refine S.loopK2 (ι:=Nat) (κ:=List Value) (fun k vs2=>k≤vs.length∧vs2.length=k) (fun k vs2=>[(11,.int .i64 (k:Int))]) [(0,_),(5,_)] (fun k vs2=>[EachP (TwoE 5) ((vs.take k).zip vs2) (pairsM ws vs.length k),OwnP Rp.val 31 (.slice a42 vs.length c42) (vs2++us.drop k),EachP (TwoE 5) ((vs.zip us).drop k) ((pairsX ws vs.length).drop k),EachP (OwnP Rp.u8 5) [] (ws.drop vs.length)]) (fun k vs2=>vs.length - k) (0) ([]) zO zq zq rfl fun k vs2 hx ih=>?_;have hm4:=meltRefl (g:=g);obtain ⟨hx1,hvs2⟩:=hx;refine zz 8 ?_;refine S.cd rfl (fun h126=>?_) fun h126=>?_
    ·have hk:k<vs.length:=by omega
     have hka:k<ws.length:=by omega
     have hku:k<us.length:=by omega
     have hrow:=hbd k hka;have hz:(vs.zip us).drop k=(vs[k],us[k])::(vs.zip us).drop (k+1):=by rw [List.drop_eq_getElem_cons zJ,List.getElem_zip]
     have hp:(pairsX ws vs.length).drop k=(ws[k],markX k ws[k].length 64)::(pairsX ws vs.length).drop (k+1):=by rw [List.drop_eq_getElem_cons (by simp [pairsX];omega)];simp [pairsX,hka]
     rw [hz,hp];refine S.eachPop zB ?_;refine S.conv (B:=TwoE 5 (vs[k],us[k]) (ws[k],markX k ws[k].length 64)) (C:=OwnP Rp.u8 5 vs[k] ws[k]) zB (fun _ x=>Two.own x) ?_;refine S.factS Sel.here (fun _ x=>OwnP.shape x) fun ⟨ak,ck,hvk⟩=>?_;rw [hvk];refine S.twoStart Sel.here ?_;refine zz 5 ?_;refine O.opE (.p rfl) (.makeP (T:=Rp.u8) (0:UInt8) (m:=64) underlying31 elem5 zE rfl rfl rfl rfl rfl zE zE) ?_;rintro _ _ ⟨a129,c129,rfl,rfl⟩;refine zz 8 ?_;refine S.loopK (ι:=Nat) (fun i=>i≤64) (fun i=>[(13,.int .i64 (i:Int))]) [(0,_),(5,_),(11,_),(12,_)] (fun i=>[OwnP Rp.u8 5 (.slice a129 64 c129) (markM k vs.length i++List.replicate (64 - i) 0),Two Rp.u8 5 (.slice ak ws[k].length ck) ws[k] (.slice ak ws[k].length ck) [],EachP (TwoE 5) ((vs.zip us).drop (k+1)) ((pairsX ws vs.length).drop (k+1)),EachP (TwoE 5) ((vs.take k).zip vs2) (pairsM ws vs.length k),OwnP Rp.val 31 (.slice a42 vs.length c42) (vs2++us.drop k),EachP (OwnP Rp.u8 5) [] (ws.drop vs.length)]) (fun i=>64 - i) (0) zG zq zq rfl fun i hx ih=>?_;have hm5:=meltRefl (g:=g);refine zz 6 ?_;refine S.cd rfl (fun h131=>?_) fun h131=>?_
     ·have hi:i<64:=by omega
      refine zz 11 ?_;refine O.v0 (.p rfl) rfl zC rfl rfl (markByte_c _ _ zH zH) ?_;refine O.opE (.p rfl) (.idxOwn (T:=Rp.u8) underlying31 size5 rfl rfl rfl zB zL) ?_;rintro _ _ ⟨p142,rfl,hp142,rfl⟩;refine O.opU rfl (.storeOwn size5 rfl hp142 rfl zB zL (show _=_ by rfl:Rp.rel _ _ _ (markB ((k:Int)+(vs.length:Int)) (i:Int)))) ?_;refine zz 7 ?_;rw [set_fill zG hi,markM_succ];exact S.wk (ih (i+1) zD zD)
     ·clear ih
      have hi:i=64:=by omega
      subst hi;rw [Nat.sub_self,List.replicate_zero,List.append_nil];refine S.frzA zB fun g hs hm hmany=>?_;replace hg:=Fr.sub_trans hg hs;replace hR:=melted hR hm
      try replace hls:=hls.mono hs
      try replace hgs:=hgs.mono hs
      replace hm1:=meltTrans hm1 hm;replace hm2:=meltTrans hm2 hm;replace hm3:=meltTrans hm3 hm;replace hm4:=meltTrans hm4 hm;replace hm5:=meltTrans hm5 hm;clear hs hm;refine zz 6 ?_;refine O.iz (hls) (h:=fun p147 cs147 hp147 hr147=>?_);obtain ⟨rfl,_⟩:=hr147;refine zz 1 ?_;refine O.slot 148 (v' :=.slice ak ws[k].length ck) rfl (by exact hvk) ?_;refine O.q 1 rfl<|O.opE (.p rfl) (.appendTwo pure_u8 underlying31 elem5 zE rfl rfl zB hmany zJ zJ) ?_;rintro _ _ ⟨a150,c150,rfl,rfl⟩;refine O.opE (.p rfl) (.idxOwn (T:=Rp.val) underlying39 size31 rfl rfl rfl zB zL) ?_;rintro _ _ ⟨p151,rfl,hp151,rfl⟩;refine O.opU rfl (.storeOwn size31 rfl hp151 rfl zB zL (⟨rfl,rfl⟩:Rp.rel Rp.val _ _ (.slice a150 (ws[k].length+0+(markM k vs.length 64).length) c150))) ?_;refine zz 7 ?_;rw [set_over hvs2 hku];simp only [List.nil_append];refine S.conv (B:=Two Rp.u8 5 (.slice ak ws[k].length ck) ws[k] (.slice a150 (ws[k].length+0+(markM k vs.length 64).length) c150) (markM k vs.length 64)) (C:=TwoE 5 (.slice ak ws[k].length ck,.slice a150 (ws[k].length+0+(markM k vs.length 64).length) c150) (ws[k],markM k vs.length 64)) zB (fun m x=>⟨m,Fr.sub_refl _,x⟩) ?_;refine S.each (A:=TwoE 5) (bs:=(vs.take k).zip vs2) zB zB ?_;rw [pairsM_succ ws vs.length k hka,zip_snoc hk hvs2 hvk];exact S.melt hm4 (S.pw (ih (k+1) (vs2++[.slice a150 (ws[k].length+0+(markM k vs.length 64).length) c150]) zP zD))
    ·clear ih
     have hk:k=vs.length:=by omega
     subst hk;rw [List.take_length,show us.drop vs.length=[] from by rw [← hus,List.drop_length],List.append_nil];refine S.frz (A:=OwnP Rp.val 31 (.slice a42 vs.length c42) vs2) zB fun g1 hs1 hme1 ⟨m1,hm1',hsm1⟩=>?_;refine S.frz (A:=EachP (TwoE 5) (vs.zip vs2) (pairsM ws vs.length vs.length)) zB fun g2 hs2 hme2 ⟨m2,hm2',hsm2⟩=>?_;have hgs:Arr Rp.val g2.h (.slice a42 vs.length c42) vs2:=hm1'.arr.mono (Fr.sub_trans hsm1 hs2);replace hls:=hls.mono (Fr.sub_trans hs1 hs2);replace hR:=melted (melted hR hme1) hme2;have htw:=fun k h1 h2 h3=>two_at hm2' hsm2 rfl hvs2 zD k h1 h2 h3;refine S.pk Picks.nil ?_;refine zz 7 ?_;refine S.loopK (ι:=Nat) (fun k=>k≤vs.length) (fun k=>[(14,.int .i64 (k:Int))]) [(0,_),(5,_)] (fun k=>[]) (fun k=>vs.length - k) (0) zG zq zq rfl fun k hx ih=>?_;have hm5:=meltRefl (g:=g);refine zz 8 ?_;refine S.cd rfl (fun h155=>?_) fun h155=>?_
     ·have hk:k<vs.length:=by omega
      have hka:k<ws.length:=by omega
      have hku:k<vs2.length:=by omega
      have hrow:=hbd k hka;obtain ⟨hA,hB⟩:=htw k hk hku hka;have hB0:=hall k hka;obtain ⟨nk,hnk⟩:∃ nk,ws[k].length=nk:=⟨_,rfl⟩;simp only [hnk] at hB0 hrow;rw [hB0] at hA hB;obtain ⟨ak,ck,hvk⟩:=hA.shape;obtain ⟨au,cu,huk⟩:=hB.shape;rw [hvk] at hA;rw [huk] at hB;simp only [List.length_append,markL_length,markM_length] at hvk huk hA hB;refine zz 8 ?_;refine S.loopK (ι:=Nat) (fun i=>i≤nk) (fun i=>[(15,.int .i64 (i:Int))]) [(0,_),(5,_),(14,_)] (fun i=>[]) (fun i=>nk - i) (0) zG zq zq rfl fun i hx ih=>?_;have hm6:=meltRefl (g:=g);refine zz 6 ?_;refine O.iz (hls) (h:=fun p161 cs161 hp161 hr161=>?_);obtain ⟨rfl,_⟩:=hr161;refine zz 1 ?_;refine O.slot 162 (v' :=.slice ak nk ck) rfl (by exact hvk) ?_;refine zz 3 ?_;refine S.cd rfl (fun h164=>?_) fun h164=>?_
      ·have hi:i<nk:=by omega
       refine S.skip<|S.seq<|S.block<|S.seq<|S.regionD (L:=.range 26) F.mixed zC<|OD.q 2 rfl<|OD.iz (hls) (h:=fun p169 cs169 hp169 hr169=>?_);obtain ⟨rfl,_⟩:=hr169;refine zz 1 ?_;refine OD.slot 170 (v' :=.slice ak nk ck) rfl (by exact hvk) ?_;refine OD.q 1 rfl<|OD.iz (hA) (h:=fun p172 cs172 hp172 hr172=>?_);obtain ⟨rfl,_⟩:=hr172;refine zz 1 ?_;refine OD.q 2 rfl<|OD.v0 (.p rfl) zC rfl zC rfl rfl (markByte_c _ _ zH zH) ?_;refine zz 1 ?_;refine OD.sT 177 rfl (by simp [markL]) ?_;refine zz 4 ?_;refine OD.iz (hgs) (h:=fun p182 cs182 hp182 hr182=>?_);obtain ⟨rfl,_⟩:=hr182;refine zz 1 ?_;refine OD.slot 183 (v' :=.slice au (nk+64) cu) rfl (by exact huk) ?_;refine OD.q 1 rfl<|OD.iz (hB) (h:=fun p185 cs185 hp185 hr185=>?_);obtain ⟨rfl,_⟩:=hr185;refine zz 1 ?_;refine OD.q 2 rfl<|OD.v0 (.g rfl rfl) zC rfl zC rfl rfl (markByte_c _ _ zH zH) ?_;refine zz 1 ?_;refine OD.sT 190 rfl (by rw [List.getElem_append_left zJ];simp [markL]) ?_;refine zz 11 ?_;exact S.wk (ih (i+1) zD zD)
      ·clear ih
       refine zz 7 ?_;exact S.wk (ih (k+1) zD zD)
     ·clear ih
      refine zz 5 ?_;exact S.rt results167 rfl hR ⟨rfl,rfl⟩
def bagB (u:Value):List Value:=[.slice none 0 0,.slice none 0 0,.slice none 0 0,.slice none 0 0,.slice none 0 0,u,.slice none 0 0,.slice none 0 0,.slice none 0 0,.slice none 0 0,.slice none 0 0,.slice none 0 0,.slice none 0 0,.slice none 0 0,.slice none 0 0,.slice none 0 0,.slice none 0 0,.slice none 0 0,.slice none 0 0,.slice none 0 0,.slice none 0 0,.slice none 0 0,.slice none 0 0,.slice none 0 0]
theorem putBytes_c {r:Fr} {b:Nat} {a a1:Option Addr} {c m1 c1:Nat} {ws:List Value} (hb:ws.length≤1000000000) :
  Con prog 76 #[.pointer (some ⟨b,0,none⟩),.slice a1 m1 c1] r [obj b 122 (bagB (.slice a ws.length c)),OwnP Rp.val 31 (.slice a ws.length c) ws]
   (Ret fun v η=>∃ a' c',v=.tuple #[]∧η=[obj b 122 (bagB (.slice a' (ws.length+1) c')),OwnP Rp.val 31 (.slice a' (ws.length+1) c') (ws++[.slice a1 m1 c1])]):=by
 refine Con.o func76 fun g hg R hR=>?_;unfold bagB;refine zz 6 ?_;refine O.q 1 rfl<|O.opE (.p rfl) (.litP (T:=Rp.val) (ys:=[_]) underlying39 elem31 zE rfl rfl ⟨⟨rfl,rfl⟩,trivial⟩ zE) ?_;rintro _ _ ⟨a10,c10,rfl,rfl⟩;refine O.opE (.p rfl) (.appendO (T:=Rp.val) underlying39 elem31 zE rfl rfl zB zB zI zI) ?_;rintro _ _ ⟨a11,c11,rfl,rfl⟩;refine zz 3 ?_;refine O.nil<|S.end0 results76 fun w hw=>Holds.end_ hR hw ?_;exact pk ⟨a11,c11,rfl,rfl⟩
theorem apartB_c {r:Fr} {b:Nat} {u:Value} {vs:List Value} {xss:List (List UInt8)} (hls:Arr Rp.val r u vs) (hq:∀ x∈xss,x.length≤100000000) (hb:xss.length≤100000000) :
  Con prog 77 #[.pointer (some ⟨b,0,none⟩)] r [obj b 122 (bagB u),RowsP Rp.u8 5 vs xss] (Ret fun v η=>v=.bool true∧η=[]):=by
 refine Con.o func77 fun g hg R hR=>?_;have hls:=hls.mono hg;unfold bagB;refine zz 10 ?_;refine O.v0 (.p rfl) rfl zC rfl rfl (flatLimbs_0) ?_;refine O.sT 7 rfl zM ?_;refine zz 5 ?_;refine O.v0 (.g rfl rfl) rfl zC rfl rfl (flatWords_0) ?_;refine O.sT 13 rfl zM ?_;refine zz 6 ?_;refine O.v0 (.g rfl rfl) rfl zC rfl rfl (flatInts_0) ?_;refine O.sT 20 rfl zM ?_;refine zz 6 ?_;refine O.v0 (.g rfl rfl) rfl zC rfl rfl (flatLongs_0) ?_;refine O.sT 27 rfl zM ?_;refine zz 6 ?_;refine O.v0 (.g rfl rfl) rfl zC rfl rfl (flatTexts_0) ?_;refine O.sT 34 rfl zM ?_;refine zz 6 ?_;refine O.vS (.g rfl rfl) rfl zC rfl rfl zB (flatBytes_c hls hq hb) ?_;refine O.sT 41 rfl zM ?_;refine zz 6 ?_;refine O.v0 (.g rfl rfl) rfl zC rfl rfl (flatTruths_0) ?_;refine O.sT 48 rfl zM ?_;refine zz 6 ?_;refine O.v0 (.g rfl rfl) rfl zC rfl rfl (flatRows_0) ?_;refine O.sT 55 rfl zM ?_;refine zz 6 ?_;refine O.v0 (.g rfl rfl) rfl zC rfl rfl (flatDots_0) ?_;refine O.sT 62 rfl zM ?_;refine zz 6 ?_;refine O.v0 (.g rfl rfl) rfl zC rfl rfl (flatRecords_0) ?_;refine O.sT 69 rfl zM ?_;refine zz 6 ?_;refine O.v0 (.g rfl rfl) rfl zC rfl rfl (flatLeaves_0) ?_;refine O.sT 76 rfl zM ?_;refine zz 6 ?_;refine O.v0 (.g rfl rfl) rfl zC rfl rfl (flatGrants_0) ?_;refine O.sT 83 rfl zM ?_;refine zz 6 ?_;refine O.v0 (.g rfl rfl) rfl zC rfl rfl (flatNodes_0) ?_;refine O.sT 90 rfl zM ?_;refine zz 6 ?_;refine O.v0 (.g rfl rfl) rfl zC rfl rfl (flatStubs_0) ?_
 refine O.sT 97 rfl zM ?_;refine zz 6 ?_;refine O.v0 (.g rfl rfl) rfl zC rfl rfl (flatProofs_0) ?_;refine O.sT 104 rfl zM ?_;refine zz 6 ?_;refine O.v0 (.g rfl rfl) rfl zC rfl rfl (flatRoots_0) ?_;refine O.sT 111 rfl zM ?_;refine zz 6 ?_;refine O.v0 (.g rfl rfl) rfl zC rfl rfl (flatEvidenceRow_0) ?_;refine O.sT 118 rfl zM ?_;refine zz 6 ?_;refine O.v0 (.g rfl rfl) rfl zC rfl rfl (flatFrames_0) ?_;refine O.sT 125 rfl zM ?_;refine zz 6 ?_;refine O.v0 (.g rfl rfl) rfl zC rfl rfl (flatPackets_0) ?_;refine O.sT 132 rfl zM ?_;refine zz 6 ?_;refine O.v0 (.g rfl rfl) rfl zC rfl rfl (flatEntries_0) ?_;refine O.sT 139 rfl zM ?_;refine zz 6 ?_;refine O.v0 (.g rfl rfl) rfl zC rfl rfl (flatHeldRow_0) ?_;refine O.sT 146 rfl zM ?_;refine zz 6 ?_;refine O.v0 (.g rfl rfl) rfl zC rfl rfl (flatConfigs_0) ?_;refine O.sT 153 rfl zM ?_;refine zz 6 ?_;refine O.v0 (.g rfl rfl) rfl zC rfl rfl (flatSteps_0) ?_;refine O.sT 160 rfl zM ?_;refine zz 6 ?_;refine O.v0 (.g rfl rfl) rfl zC rfl rfl (flatTales_0) ?_;refine O.sT 167 rfl zM ?_;refine zz 3 ?_;exact S.rt results77 rfl hR ⟨rfl,rfl⟩
theorem ApartBytes_c {r:Fr} {va:Value} {vs:List Value} {xss:List (List UInt8)} (hls:Arr Rp.val r va vs) (hq:∀ x∈xss,x.length≤100000000) (hb:xss.length≤100000000) :
  Con prog 23 #[va] r [RowsP Rp.u8 5 vs xss] (Ret fun v η=>v=.bool true∧η=[]):=by
 refine Con.o func23 fun g hg R hR=>?_;have hls:=hls.mono hg;obtain ⟨a1,c1,rfl⟩:=hls.shape;refine S.factS Sel.here (fun _ x=>EachP.len x) fun hlen=>?_;refine S.factS Sel.here (fun _ x=>EachP.all2 (R:=fun v x=>∃ a c,v=.slice a x.length c) (fun _ _ _ y _=>OwnP.shape y) x (Fr.sub_refl _)) fun hsh=>?_;refine zz 6 ?_;refine O.op (.p rfl) (.build (cs:=[_,_,_,_,_,_,_,_,_,_,_,_,_,_,_,_,_,_,_,_,_,_,_,_]) underlying122 rfl rfl rfl rfl rfl)<|O.opE (.p rfl) (.box (cs:=[_,_,_,_,_,_,_,_,_,_,_,_,_,_,_,_,_,_,_,_,_,_,_,_]) rfl rfl) ?_;rintro _ _ ⟨b6,rfl,rfl⟩;refine zz 8 ?_;refine S.addNil (T:=Rp.val) (e:=31) ?_;refine S.loopK3 (ι:=Nat) (κ:=Option Addr) (υ:=Nat) (fun k a c=>k≤vs.length) (fun k a c=>[(4,.int .i64 (k:Int))]) [(0,_),(3,_)] (fun k a c=>[OwnP Rp.val 31 (.slice a (vs.take k).length c) (vs.take k),obj b6 122 (bagB (.slice a (vs.take k).length c)),RowsP Rp.u8 5 vs xss]) (fun k a c=>vs.length - k) (0) (none) (0) zG zq zq rfl fun k a c hx ih=>?_;have hm1:=meltRefl (g:=g);refine zz 8 ?_;refine S.cd rfl (fun h10=>?_) fun h10=>?_
 ·have hk:k<vs.length:=by omega
  obtain ⟨ak,ck,hvk⟩:=hsh.get k hk zD;have hl:(vs.take k).length=k:=by simp;omega
  refine zz 7 ?_;refine O.iz (hls) (h:=fun p16 cs16 hp16 hr16=>?_);obtain ⟨rfl,_⟩:=hr16;refine zz 1 ?_;refine O.slot 17 (v' :=.slice ak xss[k].length ck) rfl (by exact hvk) ?_;refine O.callSs (.p rfl) rfl zC rfl rfl zK (putBytes_c zD) ?_;rintro _ _ ⟨a18,c18,rfl,rfl⟩;refine zz 7 ?_;rw [← hvk,← List.take_succ_eq_append_getElem hk];have hl2:(vs.take k).length+1=(vs.take (k+1)).length:=by simp;omega
  rw [hl2];exact S.pw (ih (k+1) (a18) (c18) zD zD)
 ·have hk:k=vs.length:=by omega
  subst hk;rw [List.take_length];refine S.frzA zB fun g hs hm hbag=>?_;replace hg:=Fr.sub_trans hg hs;replace hR:=melted hR hm
  try replace hls:=hls.mono hs
  replace hm1:=meltTrans hm1 hm;clear hs hm;refine zz 4 ?_;refine O.callSs (.p rfl) rfl zC rfl rfl zK (apartB_c hbag hq hb) ?_;rintro _ _ ⟨rfl,rfl⟩;refine zz 2 ?_;exact S.rt results23 rfl hR ⟨rfl,rfl⟩
theorem markDot_w {r:Fr} (k i:Int) (hk:Mk k) (hi:Mk i):Con prog 244 #[.int .i64 k,.int .i64 i] r [] (Ret fun v η=>∃ cs,v=.agg cs.toArray∧(cs.length=2∧∀ c∈cs,c.oneCell' =true)∧η=[RdW DotRp cs (markDot k i)]) :=
 (markDot_c k i hk hi).post fun e η' h w g hw=>by
  cases e with
  |returned v =>
   obtain ⟨rfl,rfl⟩:=h;exact ⟨_,⟨[.int .i64 0,.int .i64 (markZ k i)],rfl,⟨rfl,by intro c hc;simp only [List.mem_cons,List.not_mem_nil,or_false] at hc;rcases hc with rfl|rfl<;>rfl⟩,rfl⟩,hw.imp fun m x=>⟨Fr.emp,m,Fr.emp_disj _,Fr.emp_sub _,Fr.sub_refl _,markDot_rel hk hi,x⟩⟩
  |panicked _=>exact h.elim
  |outgrown=>exact h.elim
theorem markRecord_w {r:Fr} (k i:Int) (hk:Mk k) (hi:Mk i):Con prog 101 #[.int .i64 k,.int .i64 i] r [] (Ret fun v η=>∃ cs,v=.agg cs.toArray∧(cs.length=7∧∀ c∈cs,c.oneCell' =true)∧η=[RdW RecRp cs (markRec k i)]) :=
 (markRecord_c k i hk hi).post fun e η' h w g hw=>by
  cases e with
  |returned v =>
   obtain ⟨rfl,rfl⟩:=h;exact ⟨_,⟨[.string (str []),.int .i64 0,.int .i64 (markZ k i),.slice none 0 0,.bool false,.slice none 0 0,.slice none 0 0],rfl,⟨rfl,by intro c hc;simp only [List.mem_cons,List.not_mem_nil,or_false] at hc;rcases hc with rfl|rfl|rfl|rfl|rfl|rfl|rfl<;>rfl⟩,rfl⟩,hw.imp fun m x=>⟨Fr.emp,m,Fr.emp_disj _,Fr.emp_sub _,Fr.sub_refl _,markRecord_rel hk hi,x⟩⟩
  |panicked _=>exact h.elim
  |outgrown=>exact h.elim
theorem sameRecord_w {r:Fr} {cs ds:List Value} {x y:RecT} (h:RecRp.rel r cs x) :
  Con prog 49 #[.agg cs.toArray,.agg ds.toArray] r [RdW RecRp ds y] (Ret fun v η=>v=.bool (decide (x=y))∧η=[]) :=
 Con.lentD (η:=[]) (bs:=[_]) fun _ hm hd=>sameRecord_c (RecRp.mono (Fr.sub_add_left _ _) h) (RecRp.mono (Fr.sub_add_right hd) (Sat.w1 (B:=fun m=>RecRp.rel m ds y) RecRp.mono (fun _ x=>x) hm))
theorem markLeaf_w {r:Fr} (k i:Int) (hk:Mk k) (hi:Mk i):Con prog 138 #[.int .i64 k,.int .i64 i] r [] (Ret fun v η=>∃ cs,v=.agg cs.toArray∧(cs.length=2∧∀ c∈cs,c.oneCell' =true)∧η=[RdW LeafRp cs (markLeaf k i)]) :=
 (markLeaf_c k i hk hi).post fun e η' h w g hw=>by
  cases e with
  |returned v =>
   obtain ⟨rfl,rfl⟩:=h;exact ⟨_,⟨[.string (str (markT k i)),.slice none 0 0],rfl,⟨rfl,by intro c hc;simp only [List.mem_cons,List.not_mem_nil,or_false] at hc;rcases hc with rfl|rfl<;>rfl⟩,rfl⟩,hw.imp fun m x=>⟨Fr.emp,m,Fr.emp_disj _,Fr.emp_sub _,Fr.sub_refl _,markLeaf_rel hk hi,x⟩⟩
  |panicked _=>exact h.elim
  |outgrown=>exact h.elim
theorem sameLeaf_w {r:Fr} {cs ds:List Value} {x y:LeafT} (h:LeafRp.rel r cs x) :
  Con prog 158 #[.agg cs.toArray,.agg ds.toArray] r [RdW LeafRp ds y] (Ret fun v η=>v=.bool (decide (x=y))∧η=[]) :=
 Con.lentD (η:=[]) (bs:=[_]) fun _ hm hd=>sameLeaf_c (LeafRp.mono (Fr.sub_add_left _ _) h) (LeafRp.mono (Fr.sub_add_right hd) (Sat.w1 (B:=fun m=>LeafRp.rel m ds y) LeafRp.mono (fun _ x=>x) hm))
theorem markRoot_w {r:Fr} (k i:Int) (hk:Mk k) (hi:Mk i):Con prog 140 #[.int .i64 k,.int .i64 i] r [] (Ret fun v η=>∃ cs,v=.agg cs.toArray∧(cs.length=5∧∀ c∈cs,c.oneCell' =true)∧η=[RdW RootRp cs (markRoot k i)]) :=
 (markRoot_c k i hk hi).post fun e η' h w g hw=>by
  cases e with
  |returned v =>
   obtain ⟨rfl,rfl⟩:=h;exact ⟨_,⟨[.int .i64 0,.int .i64 0,.int .i64 (markZ k i),.slice none 0 0,.slice none 0 0],rfl,⟨rfl,by intro c hc;simp only [List.mem_cons,List.not_mem_nil,or_false] at hc;rcases hc with rfl|rfl|rfl|rfl|rfl<;>rfl⟩,rfl⟩,hw.imp fun m x=>⟨Fr.emp,m,Fr.emp_disj _,Fr.emp_sub _,Fr.sub_refl _,markRoot_rel hk hi,x⟩⟩
  |panicked _=>exact h.elim
  |outgrown=>exact h.elim
theorem sameRoot_w {r:Fr} {cs ds:List Value} {x y:RootT} (h:RootRp.rel r cs x) :
  Con prog 160 #[.agg cs.toArray,.agg ds.toArray] r [RdW RootRp ds y] (Ret fun v η=>v=.bool (decide (x=y))∧η=[]) :=
 Con.lentD (η:=[]) (bs:=[_]) fun _ hm hd=>sameRoot_c (RootRp.mono (Fr.sub_add_left _ _) h) (RootRp.mono (Fr.sub_add_right hd) (Sat.w1 (B:=fun m=>RootRp.rel m ds y) RootRp.mono (fun _ x=>x) hm))
theorem markEvidence_w {r:Fr} (k i:Int) (hk:Mk k) (hi:Mk i):Con prog 142 #[.int .i64 k,.int .i64 i] r [] (Ret fun v η=>∃ cs,v=.agg cs.toArray∧(cs.length=10∧∀ c∈cs,c.oneCell' =true)∧η=[RdW EvdRp cs (markEvd k i)]) :=
 (markEvidence_c k i hk hi).post fun e η' h w g hw=>by
  cases e with
  |returned v =>
   obtain ⟨rfl,rfl⟩:=h;exact ⟨_,⟨[.int .i64 0,.int .i64 0,.int .i64 (markZ k i),.slice none 0 0,.slice none 0 0,.int .i64 0,.int .i64 0,.int .i64 0,.slice none 0 0,.slice none 0 0],rfl,⟨rfl,by intro c hc;simp only [List.mem_cons,List.not_mem_nil,or_false] at hc;rcases hc with rfl|rfl|rfl|rfl|rfl|rfl|rfl|rfl|rfl|rfl<;>rfl⟩,rfl⟩,hw.imp fun m x=>⟨Fr.emp,m,Fr.emp_disj _,Fr.emp_sub _,Fr.sub_refl _,markEvidence_rel hk hi,x⟩⟩
  |panicked _=>exact h.elim
  |outgrown=>exact h.elim
theorem sameEvidence_w {r:Fr} {cs ds:List Value} {x y:EvdT} (h:EvdRp.rel r cs x) :
  Con prog 156 #[.agg cs.toArray,.agg ds.toArray] r [RdW EvdRp ds y] (Ret fun v η=>v=.bool (decide (x=y))∧η=[]) :=
 Con.lentD (η:=[]) (bs:=[_]) fun _ hm hd=>sameEvidence_c (EvdRp.mono (Fr.sub_add_left _ _) h) (EvdRp.mono (Fr.sub_add_right hd) (Sat.w1 (B:=fun m=>EvdRp.rel m ds y) EvdRp.mono (fun _ x=>x) hm))
def markHld (k i:Int):HeldT:=([],[],[],[markZ k i],())
theorem markHeld_c {r:Fr} (k i:Int) (hk:Mk k) (hi:Mk i):Con prog 259 #[.int .i64 k,.int .i64 i] r [] (Ret fun v η=>∃ a c,v=.agg #[.slice none 0 0,.slice none 0 0,.slice none 0 0,.slice a 1 c]∧η=[OwnP Rp.i64 3 (.slice a 1 c) [markZ k i]]):=by
 have h64:=markZ64 hk hi;unfold InI64 at h64;refine Con.o func259 fun g hg R hR=>?_;refine S.seq<|S.region rfl<|O.opE (.p rfl) (.alloc (cs:=[.slice none 0 0,.slice none 0 0,.slice none 0 0,.slice none 0 0]) zeroValue27 rfl) ?_;rintro _ _ ⟨b4,rfl,rfl⟩;refine zz 5 ?_;refine O.v0 (.p rfl) rfl zC rfl rfl ((mark_c _ _ hk hi)) ?_;refine O.opE (.p rfl) (.litP (T:=Rp.i64) (ys:=[_]) underlying25 elem3 zE rfl rfl ⟨⟨rfl,by first|assumption|(constructor<;>omega)⟩,trivial⟩ zE) ?_;rintro _ _ ⟨a8,c8,rfl,rfl⟩;refine O.op (.p rfl) (.build (cs:=[_,_,_,_]) underlying27 rfl rfl rfl rfl rfl) ?_;refine zz 1 ?_;refine O.nil<|S.retCellAgg results259 isAgg27 zC rfl zB fun w hw=>Holds.end_ hR hw ?_;exact pk ⟨a8,c8,rfl,rfl⟩
theorem markHeld_w {r:Fr} (k i:Int) (hk:Mk k) (hi:Mk i):Con prog 259 #[.int .i64 k,.int .i64 i] r [] (Ret fun v η=>∃ cs,v=.agg cs.toArray∧(cs.length=4∧∀ c∈cs,c.oneCell' =true)∧η=[RdW HeldRp cs (markHld k i)]) :=
 (markHeld_c k i hk hi).post fun e η' h w g hw=>by
  cases e with
  |returned v =>
   obtain ⟨a,c,rfl,rfl⟩:=h;exact ⟨_,⟨[.slice none 0 0,.slice none 0 0,.slice none 0 0,.slice a 1 c],rfl,⟨rfl,by intro c hc;simp only [List.mem_cons,List.not_mem_nil,or_false] at hc;rcases hc with rfl|rfl|rfl|rfl<;>rfl⟩,rfl⟩,hw.imp fun m x=>by
    obtain ⟨h1,h2,d,s1,s2,ho,he⟩:=x;exact ⟨h1,h2,d,s1,s2,HeldRp.mk Arr.nil Arr.nil Arr.nil ho.arr,he⟩⟩
  |panicked _=>exact h.elim
  |outgrown=>exact h.elim
theorem sameHeld_w {r:Fr} {cs ds:List Value} {x y:HeldT} (h:HeldRp.rel r cs x) :
  Con prog 33 #[.agg cs.toArray,.agg ds.toArray] r [RdW HeldRp ds y] (Ret fun v η=>v=.bool (decide (x=y))∧η=[]) :=
 Con.lentD (η:=[]) (bs:=[_]) fun _ hm hd=>sameHeld_c (HeldRp.mono (Fr.sub_add_left _ _) h) (HeldRp.mono (Fr.sub_add_right hd) (Sat.w1 (B:=fun m=>HeldRp.rel m ds y) HeldRp.mono (fun _ x=>x) hm))
end Go.Proofs.YtodhbhanmdfdeaaGreat
