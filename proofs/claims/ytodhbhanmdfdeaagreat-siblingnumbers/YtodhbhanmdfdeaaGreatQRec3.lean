/- Texts of this proof. -/
import Derived.Test.YtodhbhanmdfdeaaGreatQWire1
import Derived.Test.YtodhbhanmdfdeaaGreatQSpSib
open Go Go.Sp Go.Proofs.Tryz
set_option maxRecDepth 100000
set_option maxHeartbeats 1000000
attribute [local irreducible] obj Own OwnP
namespace Go.Proofs.YtodhbhanmdfdeaaGreat
theorem isNaN_c {r:Fr} (x:Int):Con prog 322 #[.int .i64 x] r [] (Ret fun v η=>v=.bool false∧η=[]):=by
 refine Con.o func322 fun g hg R hR=>?_;refine zz 9 ?_;refine O.sF 5 rfl zG ?_;refine zz 2 ?_;exact S.rt results322 rfl hR ⟨rfl,rfl⟩
theorem compare_c {r:Fr} (x y:Int):Con prog 281 #[.int .i64 x,.int .i64 y] r [] (Ret fun v η=>v=.int .i64 (cmpZ x y)∧η=[]):=by
 refine Con.o func281 fun g hg R hR=>?_;refine zz 7 ?_;refine O.v0 (.p rfl) rfl zC rfl rfl (isNaN_c _) ?_;refine zz 5 ?_;refine O.v0 (.p rfl) rfl zC rfl rfl (isNaN_c _) ?_;refine zz 23 ?_;refine S.cd rfl (fun h16=>?_) fun h16=>?_
 ·refine zz 4 ?_
  exact S.rt results281 rfl hR ⟨by simp [cmpZ,h16],rfl⟩
 ·refine zz 8 ?_
  refine S.cd rfl (fun h19=>?_) fun h19=>?_
  ·refine zz 4 ?_
   exact S.rt results281 rfl hR ⟨by simp only [cmpZ];rw [if_neg zD,if_pos zD],rfl⟩
  ·refine zz 5 ?_
   exact S.rt results281 rfl hR ⟨by simp only [cmpZ];rw [if_neg zD,if_neg zD],rfl⟩
def firstNZ:List Int→Int
 |[]=>0
 |x::l=>if x≠0 then x else firstNZ l
theorem firstNZ_drop {l:List Int} {i:Nat} (h:i<l.length):firstNZ (l.drop i)=if l[i]≠0 then l[i] else firstNZ (l.drop (i+1)):=by
 rw [List.drop_eq_getElem_cons h];rfl
theorem cmpOr_c {r:Fr} {va:Value} {l:List Int} (ha:Arr Rp.i64 r va l):Con prog 207 #[va] r [] (Ret fun v η=>v=.int .i64 (firstNZ l)∧η=[]):=by
 refine Con.o func207 fun g hg R hR=>?_;have ha:=ha.mono hg;have hbd:=ha.bound;obtain ⟨a1,c1,rfl⟩:=ha.shape;refine zz 16 ?_;refine S.loopK (ι:=Nat) (fun i=>i≤l.length∧firstNZ (l.drop i)=firstNZ l) (fun i=>[(8,.int .i64 (i:Int))]) [(3,_),(6,_),(7,_)] (fun i=>[]) (fun i=>l.length - i) (0) zG zq zq rfl fun i hx ih=>?_;have hm1:=meltRefl (g:=g);obtain ⟨hx1,hx2⟩:=hx;refine zz 5 ?_;refine S.cd rfl (fun h9=>?_) fun h9=>?_
 ·have hi:i<l.length:=by omega
  rw [firstNZ_drop hi] at hx2;refine zz 5 ?_;refine O.ia (.p rfl) underlying25 size3 rfl rfl rfl zA (h:=fun p10 cs10 hp10 hr10=>?_);obtain ⟨rfl,hz10⟩:=hr10;refine zz 9 ?_;refine S.cd rfl (fun h14=>?_) fun h14=>?_
  ·rw [if_pos h14] at hx2
   clear ih;refine zz 5 ?_;exact S.rt results207 rfl hR ⟨by rw [hx2],rfl⟩
  ·rw [if_neg h14] at hx2
   refine zz 6 ?_;exact S.wk (ih (i+1) (by exact ⟨by omega,hx2⟩) zD)
 ·clear ih
  have hi:i=l.length:=by omega
  subst hi;rw [List.drop_length] at hx2;refine zz 6 ?_;exact S.rt results207 rfl hR ⟨by rw [← hx2];rfl,rfl⟩
theorem cmpOr_d {r:Fr} {e:TypeId} {va:Value} {l:List Int}:Con prog 207 #[va] r [OwnP Rp.i64 e va l] (Ret fun v η=>v=.int .i64 (firstNZ l)∧η=[]) :=
 Con.lentD (η:=[]) (bs:=[_]) fun _ hm hd=>cmpOr_c (hm.arr.right hd)
theorem vright_c {r:Fr} {a b:Int} (d:DotT) (h:d=(a,b,())):Con prog 224 #[.agg #[.int .i64 a,.int .i64 b]] r [] (Ret fun v η=>v=.bool (dotOk d)∧η=[]):=by
 subst h;refine Con.o func224 fun g hg R hR=>?_;refine S.seq<|S.region rfl<|O.opE (.p rfl) (.box (cs:=[_,_]) rfl rfl) ?_;rintro _ _ ⟨b1,rfl,rfl⟩;refine zz 8 ?_
 first|refine O.caseD 6 rfl (fun h6=>?_) (fun h6=>?_)|refine O.caseB 6 rfl (fun h6=>?_) (fun h6=>?_)
 ·refine zz 5 ?_
  first|refine O.caseD 11 rfl (fun h11=>?_) (fun h11=>?_)|refine O.caseB 11 rfl (fun h11=>?_) (fun h11=>?_)
  ·refine zz 5 ?_
   first|refine O.caseD 16 rfl (fun h16=>?_) (fun h16=>?_)|refine O.caseB 16 rfl (fun h16=>?_) (fun h16=>?_)
   ·refine zz 6 ?_
    exact S.rt results224 rfl hR ⟨congrArg _ (decide_eq_decide.2 (by simp only [true_and,and_true];omega)),rfl⟩
   ·refine zz 6 ?_
    exact S.rt results224 rfl hR ⟨congrArg _ (decide_eq_false zV).symm,rfl⟩
  ·refine zz 11 ?_
   exact S.rt results224 rfl hR ⟨congrArg _ (decide_eq_false zV).symm,rfl⟩
 ·refine zz 16 ?_
  exact S.rt results224 rfl hR ⟨congrArg _ (decide_eq_false zV).symm,rfl⟩
theorem dright_c {r:Fr} {va:Value} {v:List DotT} (ha:Arr DotRp r va v):Con prog 291 #[va] r [] (Ret fun u η=>u=.bool (vecOk v)∧η=[]):=by
 refine Con.o func291 fun g hg R hR=>?_;have ha:=ha.mono hg;have hbd:=ha.bound;obtain ⟨a1,c1,rfl⟩:=ha.shape;refine zz 12 ?_;refine S.loopK (ι:=Nat) (fun k=>k≤v.length∧vecOk (v.take k)=true) (fun k=>[(7,.int .i64 (k:Int))]) [(0,_),(5,_),(6,_)] (fun k=>[]) (fun k=>v.length - k) (0) zO zq zq rfl fun k hx ih=>?_;have hm1:=meltRefl (g:=g);obtain ⟨hx1,hx2⟩:=hx;refine zz 5 ?_;refine S.cd rfl (fun h8=>?_) fun h8=>?_
 ·have hk:k<v.length:=by omega
  have hst:=vecOk_step hk hx2
  by_cases hd:dotOk v[k]=true
  ·by_cases h0:k=0
   ·
    refine zz 6 ?_;refine O.ia (.p rfl) underlying250 size166 rfl rfl rfl zA (h:=fun p10 cs10 hp10 hr10=>?_);obtain ⟨rfl,hi10,hj10⟩:=DotRp.open hr10;refine O.op (.p rfl) (.loadAgg isAgg166 zC rfl hp10) ?_;refine O.opE (.p rfl) (.alloc (cs:=[.int .i64 0,.int .i64 0]) zeroValue166 rfl) ?_;rintro _ _ ⟨b4,rfl,rfl⟩;refine zz 2 ?_;refine O.nil<|S.seq<|S.frzO zB fun g hs hm h4=>?_;replace hg:=Fr.sub_trans hg hs;replace hR:=melted hR hm
    try replace ha:=ha.mono hs
    try replace hp10:=hp10.mono hs
    try replace hr10:=hr10.mono hs
    replace hm1:=meltTrans hm1 hm;clear hs hm;refine S.regionD (L:=.range 18) F.mixed zC ?_;refine .quiet (.p rfl) rfl (fun _=>.loadAgg isAgg166 zC rfl h4) ?_;refine OD.v0 (.p rfl) zC rfl zC rfl rfl (vright_c v[k] rfl) ?_;refine OD.sT 13 rfl (by exact hd) ?_;refine zz 4 ?_;refine OD.sF 17 rfl zJ ?_;refine zz 20 ?_;exact S.melt hm1 (S.wk (ih (k+1) (by exact ⟨by omega,hst.2 ⟨hd,fun h=>absurd h zD⟩⟩) zD))
   ·have hk1:k - 1<v.length:=by omega
    refine zz 6 ?_;refine O.ia (.p rfl) underlying250 size166 rfl rfl rfl zA (h:=fun p10 cs10 hp10 hr10=>?_);obtain ⟨rfl,hi10,hj10⟩:=DotRp.open hr10;refine O.op (.p rfl) (.loadAgg isAgg166 zC rfl hp10) ?_;refine O.opE (.p rfl) (.alloc (cs:=[.int .i64 0,.int .i64 0]) zeroValue166 rfl) ?_;rintro _ _ ⟨b4,rfl,rfl⟩;refine zz 2 ?_;refine O.nil<|S.seq<|S.frzO zB fun g hs hm h4=>?_;replace hg:=Fr.sub_trans hg hs;replace hR:=melted hR hm
    try replace ha:=ha.mono hs
    try replace hp10:=hp10.mono hs
    try replace hr10:=hr10.mono hs
    replace hm1:=meltTrans hm1 hm;clear hs hm;refine S.regionD (L:=.range 18) F.mixed zC ?_;refine .quiet (.p rfl) rfl (fun _=>.loadAgg isAgg166 zC rfl h4) ?_;refine OD.v0 (.p rfl) zC rfl zC rfl rfl (vright_c v[k] rfl) ?_;refine OD.sT 13 rfl (by exact hd) ?_;refine zz 4 ?_;refine OD.sT 17 rfl zJ ?_;refine zz 4 ?_;refine OD.ia (.g rfl rfl) underlying250 size166 rfl rfl (show _=(((k - 1):Nat):Int) by omega) zA (h:=fun p22 cs22 hp22 hr22=>?_);obtain ⟨rfl,hi22,hj22⟩:=DotRp.open hr22;refine zz 8 ?_;refine S.cd rfl (fun h29=>?_) fun h29=>?_
    ·refine zz 4 ?_
     refine S.ret results291 rfl fun w hw=>Holds.end_ hR hw ?_;refine ⟨_,⟨?_,rfl⟩,by repeat (first|exact zpa|exact zpn|(apply zpc;focus (repeat (first|exact zh|apply zt)))|apply zps)⟩
     congr 1;symm
     refine vecOk_none (i:=k+1) ?_;rw [Bool.eq_false_iff]
     intro e
     have:=(hst.1 e).2 zD
     omega
    ·refine zz 6 ?_
     exact S.melt hm1 (S.wk (ih (k+1) (by exact ⟨by omega,hst.2 ⟨hd,fun _=>by omega⟩⟩) zD))
  ·have hd' :dotOk v[k]=false:=by simpa using hd
   refine zz 6 ?_;refine O.ia (.p rfl) underlying250 size166 rfl rfl rfl zA (h:=fun p10 cs10 hp10 hr10=>?_);obtain ⟨rfl,hi10,hj10⟩:=DotRp.open hr10;refine O.op (.p rfl) (.loadAgg isAgg166 zC rfl hp10) ?_;refine O.opE (.p rfl) (.alloc (cs:=[.int .i64 0,.int .i64 0]) zeroValue166 rfl) ?_;rintro _ _ ⟨b4,rfl,rfl⟩;refine zz 2 ?_;refine O.nil<|S.seq<|S.frzO zB fun g hs hm h4=>?_;replace hg:=Fr.sub_trans hg hs;replace hR:=melted hR hm
   try replace ha:=ha.mono hs
   try replace hp10:=hp10.mono hs
   try replace hr10:=hr10.mono hs
   replace hm1:=meltTrans hm1 hm;clear hs hm;refine S.regionD (L:=.range 18) F.mixed zC ?_;refine .quiet (.p rfl) rfl (fun _=>.loadAgg isAgg166 zC rfl h4) ?_;refine OD.v0 (.p rfl) zC rfl zC rfl rfl (vright_c v[k] rfl) ?_;refine OD.sF 13 rfl (by exact hd') ?_;refine zz 22 ?_;clear ih;refine S.ret results291 rfl fun w hw=>Holds.end_ hR hw ?_;refine ⟨_,⟨?_,rfl⟩,by repeat (first|exact zpa|exact zpn|(apply zpc;focus (repeat (first|exact zh|apply zt)))|apply zps)⟩
   congr 1;symm
   refine vecOk_none (i:=k+1) ?_;rw [Bool.eq_false_iff]
   intro e
   exact hd (hst.1 e).1
 ·clear ih
  have hk:k=v.length:=by omega
  subst hk;rw [List.take_length] at hx2;refine zz 5 ?_;exact S.rt results291 rfl hR ⟨by rw [hx2],rfl⟩
theorem at1_c {r:Fr} {a b c:Int}:Con prog 325 #[.agg #[.int .i64 a,.int .i64 b],.int .i64 c] r [] (Ret fun u η=>u=.int .i64 (cmpZ a c)∧η=[]):=by
 refine Con.o func325 fun g hg R hR=>?_;refine S.seq<|S.region rfl<|O.opE (.p rfl) (.box (cs:=[_,_]) rfl rfl) ?_;rintro _ _ ⟨b2,rfl,rfl⟩;refine zz 6 ?_;refine O.q 1 rfl<|O.v0 (.p rfl) rfl zC rfl rfl (compare_c _ _) ?_;refine zz 2 ?_;exact S.rt results325 rfl hR ⟨rfl,rfl⟩
theorem half_eq {s:Nat} (h:s≤18446744073709551614 / 2):IntKind.i64.wrap ((IntKind.u64.wrap (s:Int)).fdiv (2 ^ min (1:Int).toNat IntKind.u64.bits))=((s / 2:Nat):Int):=by
 have e:IntKind.u64.wrap (s:Int)=(s:Int):=by rw [wrap_u64_eq];unfold u64;omega
 rw [e,IntKind.wrap_i64];have:(2:Int) ^ min (1:Int).toNat IntKind.u64.bits=2:=by decide
 rw [this];have h2:(s:Int).fdiv 2=((s / 2:Nat):Int):=by rw [Int.fdiv_eq_ediv_of_nonneg _ zD];omega
 rw [h2];omega
theorem bsearch_c {r:Fr} {va:Value} {v:List DotT} (c:Int) (ha:Arr DotRp r va v) (hv:Rises v) (hl:v.length≤1000000000000):Con prog 324 #[va,.int .i64 c,.func (.func 325) #[] #[]] r []
  (Ret fun u η=>∃ (k:Nat) (b:Bool),u=.tuple #[.int .i64 (k:Int),.bool b]∧k≤v.length∧(b=true→∃ h:k<v.length,v[k].1=c)∧(b=false→∀ i (hi:i<v.length),v[i].1≠c)∧η=[]):=by
 refine Con.o func324 fun g hg R hR=>?_;have ha:=ha.mono hg;obtain ⟨a1,c1,rfl⟩:=ha.shape;have hlt:∀ i j (hi:i<v.length) (hj:j<v.length),i<j→v[i].1<v[j].1:=fun i j hi hj h=>List.pairwise_iff_getElem.1 hv i j hi hj h;refine zz 19 ?_;refine S.loopK2 (ι:=Nat) (κ:=Nat) (fun i j=>i≤j∧j≤v.length∧(∀ q (hq:q<v.length),q<i→v[q].1<c)∧(∀ q (hq:q<v.length),j≤q→c≤v[q].1)) (fun i j=>[(9,.int .i64 (i:Int)),(10,.int .i64 (j:Int))]) [(0,_),(1,_),(2,_),(8,_)] (fun i j=>[]) (fun i j=>j - i) (0) (v.length) (by exact ⟨by omega,by omega,fun q _ h=>absurd h zD,fun q hq h=>absurd hq zD⟩) zq zq rfl fun i j hx ih=>?_;have hm1:=meltRefl (g:=g);obtain ⟨hij,hjl,hlo,hhi⟩:=hx;refine zz 7 ?_;refine S.cd rfl (fun h17=>?_) fun h17=>?_
 ·have hm:(i+j) / 2<v.length:=by omega
  have hfin:cmpZ v[(i+j) / 2].1 c<0↔v[(i+j) / 2].1<c:=by unfold cmpZ;split<;>(try split)<;>omega
  refine zz 7 ?_;refine O.op (.p rfl) (.cvt underlying3 underlying57 rfl)<|O.op (.p rfl) (.shr rfl rfl zD)<|O.op (.p rfl) (.cvt underlying57 underlying3 rfl)<|O.slot 23 (v' :=.int .i64 (((i+j) / 2:Nat):Int)) rfl (by exact congrArg _ (half_eq (s:=i+j) zD)) ?_;refine zz 7 ?_;refine O.ia (.p rfl) underlying250 size166 rfl rfl (show _=((((i+j) / 2):Nat):Int) by omega) zA (h:=fun p27 cs27 hp27 hr27=>?_);obtain ⟨rfl,hi27,hj27⟩:=DotRp.open hr27;refine O.op (.p rfl) (.loadAgg isAgg166 zC rfl hp27) ?_;refine O.q 1 rfl<|O.v0 (.p rfl) rfl zC rfl rfl (at1_c) ?_;refine zz 2 ?_;refine S.cd rfl (fun h31=>?_) fun h31=>?_
  ·have hc:=hfin.1 h31
   refine zz 6 ?_;exact S.wk (ih ((i+j) / 2+1) (j) (by (refine ⟨by omega,by omega,fun q hq h=>?_,hhi⟩;by_cases e:q=(i+j) / 2;(subst e;exact hc);(have:=hlt q ((i+j) / 2) hq hm zD;omega))) zD)
  ·have hc:c≤v[(i+j) / 2].1:=by have:=mt hfin.2 h31;omega
   refine zz 5 ?_;exact S.wk (ih (i) ((i+j) / 2) (by (refine ⟨by omega,by omega,hlo,fun q hq h=>?_⟩;by_cases e:q=(i+j) / 2;(subst e;exact hc);(have:=hlt ((i+j) / 2) q hm hq zD;omega))) zD)
 ·clear ih
  have e:i=j:=by omega
  subst e
  by_cases hi:i<v.length
  ·
   have hc:=hhi i hi (Nat.le_refl _);have hfin:cmpZ v[i].1 c=0↔v[i].1=c:=by unfold cmpZ;split<;>(try split)<;>omega
   refine zz 7 ?_;refine O.sT 38 rfl zJ ?_;refine O.q 4 rfl<|O.ia (.g rfl rfl) underlying250 size166 rfl rfl rfl zA (h:=fun p43 cs43 hp43 hr43=>?_);obtain ⟨rfl,hi43,hj43⟩:=DotRp.open hr43;refine O.op (.g rfl rfl) (.loadAgg isAgg166 zC rfl hp43) ?_;refine O.q 1 rfl<|O.v0 (.g rfl rfl) rfl zC rfl rfl (at1_c) ?_;refine zz 5 ?_;refine S.ret2 results324 rfl rfl fun w hw=>Holds.end_ hR hw ?_;refine ⟨_,⟨i,_,rfl,hjl,fun hb=>⟨hi,hfin.1 (by simpa using hb)⟩,fun hb q hq e=>?_,rfl⟩,by repeat (first|exact zpa|exact zpn|(apply zpc;focus (repeat (first|exact zh|apply zt)))|apply zps)⟩;have hne:¬ v[i].1=c:=fun e2=>by simp [hfin.2 e2] at hb
   rcases Nat.lt_trichotomy q i with h|h|h
   ·have:=hlo q hq h;omega
   ·subst h;exact hne e
   ·have:=hlt i q hi hq h;omega
  ·
   refine zz 7 ?_;refine O.sF 38 rfl zJ ?_;refine O.q 12 rfl<|O.nil<|S.ret2 results324 rfl rfl fun w hw=>Holds.end_ hR hw ?_;exact pk ⟨i,false,rfl,hjl,fun h=>(by cases h),fun _ q hq e=>by have:=hlo q hq zD;omega,rfl⟩
theorem at_c {r:Fr} {va:Value} {v:List DotT} (c:Int) (ha:Arr DotRp r va v) (hv:Rises v) (hl:v.length≤1000000000000):Con prog 292 #[va,.int .i64 c] r []
  (Ret fun u η=>∃ (k:Nat) (b:Bool),u=.tuple #[.int .i64 (k:Int),.bool b]∧k≤v.length∧(b=true→∃ h:k<v.length,v[k].1=c)∧(b=false→∀ i (hi:i<v.length),v[i].1≠c)∧η=[]):=by
 refine Con.o func292 fun g hg R hR=>?_;have ha:=ha.mono hg;refine zz 9 ?_;refine O.call0 (.p rfl) rfl zC rfl rfl (bsearch_c _ zA zF zI) ?_;rintro v8 _ ⟨k8,b8,rfl,hk8,ht8,hf8,rfl⟩;refine O.q 4 rfl<|O.nil<|S.ret2 results292 rfl rfl fun w hw=>Holds.end_ hR hw ?_;exact pk ⟨k8,b8,rfl,hk8,ht8,hf8,rfl⟩
theorem dhas_c {r:Fr} {va:Value} {v:List DotT} {a b:Int} (d:DotT) (h:d=(a,b,())) (ha:Arr DotRp r va v) (hv:Rises v) (hl:v.length≤1000000000000):Con prog 225 #[va,.agg #[.int .i64 a,.int .i64 b]] r []
  (Ret fun u η=>u=.bool (hasM v d)∧η=[]):=by
 subst h;refine Con.o func225 fun g hg R hR=>?_;have ha:=ha.mono hg;obtain ⟨a1,c1,rfl⟩:=ha.shape;refine S.seq<|S.region rfl<|O.opE (.p rfl) (.box (cs:=[_,_]) rfl rfl) ?_;rintro _ _ ⟨b3,rfl,rfl⟩;refine zz 7 ?_;refine O.call0 (.p rfl) rfl zC rfl rfl (at_c _ zA zF zI) ?_;rintro v11 _ ⟨k11,b11,rfl,hk11,ht11,hf11,rfl⟩;refine zz 7 ?_
 cases b11 with
 |true =>
  obtain ⟨hk,hkc⟩:=ht11 rfl;refine S.frzO zB fun g hs hm h3=>?_;replace hg:=Fr.sub_trans hg hs;replace hR:=melted hR hm
  try replace ha:=ha.mono hs
  clear hs hm;refine S.regionD (L:=.range 12) F.mixed zC ?_;refine OD.q 1 rfl<|OD.sT 14 rfl zM ?_;refine OD.q 3 rfl<|OD.ia (.g rfl rfl) underlying250 size166 rfl rfl (show _=(((k11):Nat):Int) by omega) zA (h:=fun p18 cs18 hp18 hr18=>?_);obtain ⟨rfl,hi18,hj18⟩:=DotRp.open hr18;refine zz 8 ?_;exact S.rt results225 rfl hR ⟨by rw [hasM_at hv hk hkc],rfl⟩
 |false =>
  refine S.frzO zB fun g hs hm h3=>?_;replace hg:=Fr.sub_trans hg hs;replace hR:=melted hR hm
  try replace ha:=ha.mono hs
  clear hs hm;refine S.regionD (L:=.range 12) F.mixed zC ?_;refine OD.q 1 rfl<|OD.sF 14 rfl zM ?_;refine zz 12 ?_;exact S.rt results225 rfl hR ⟨by rw [hasM_no (hf11 rfl)],rfl⟩
theorem vRight_c {r:Fr} {va:Value} {v:List DotT} (ha:Arr DotRp r va v):Con prog 223 #[va] r [] (Ret fun u η=>u=.bool (vecOk v)∧η=[]):=by
 refine Con.o func223 fun g hg R hR=>?_;have ha:=ha.mono hg;refine zz 7 ?_;refine O.v0 (.p rfl) rfl zC rfl rfl (dright_c zA) ?_;refine zz 2 ?_;exact S.rt results223 rfl hR ⟨rfl,rfl⟩
theorem vHas_c {r:Fr} {va:Value} {v:List DotT} {a b:Int} (d:DotT) (h:d=(a,b,())) (ha:Arr DotRp r va v):Con prog 123 #[va,.agg #[.int .i64 a,.int .i64 b]] r [] (Ret fun u η=>u=.bool (hasR v d)∧η=[]):=by
 subst h;refine Con.o func123 fun g hg R hR=>?_;have ha:=ha.mono hg
 cases hv:vecOk v with
 |false =>
  refine S.seq<|S.region rfl<|O.opE (.p rfl) (.box (cs:=[_,_]) rfl rfl) ?_;rintro _ _ ⟨b3,rfl,rfl⟩;refine zz 5 ?_;refine O.v0 (.p rfl) rfl zC rfl rfl (vRight_c zA) ?_;refine O.sF 6 rfl (by exact hv) ?_;refine zz 11 ?_;exact S.rt results123 rfl hR ⟨by simp [hasR,hv],rfl⟩
 |true =>
  have hr:=(vecOk_iff.1 hv).2;have hl:=rises_len hv
  cases hd:dotOk (a,b,()) with
  |false =>
   refine S.seq<|S.region rfl<|O.opE (.p rfl) (.box (cs:=[_,_]) rfl rfl) ?_;rintro _ _ ⟨b3,rfl,rfl⟩;refine zz 5 ?_;refine O.v0 (.p rfl) rfl zC rfl rfl (vRight_c zA) ?_;refine O.sT 6 rfl (by exact hv) ?_;refine zz 2 ?_;refine O.v0 (.g rfl rfl) rfl zC rfl rfl (vright_c _ rfl) ?_;refine O.sF 9 rfl (by exact hd) ?_;refine zz 8 ?_;exact S.rt results123 rfl hR ⟨by simp [hasR,hd],rfl⟩
  |true =>
   refine S.seq<|S.region rfl<|O.opE (.p rfl) (.box (cs:=[_,_]) rfl rfl) ?_;rintro _ _ ⟨b3,rfl,rfl⟩;refine zz 5 ?_;refine O.v0 (.p rfl) rfl zC rfl rfl (vRight_c zA) ?_;refine O.sT 6 rfl (by exact hv) ?_;refine zz 2 ?_;refine O.v0 (.g rfl rfl) rfl zC rfl rfl (vright_c _ rfl) ?_;refine O.sT 9 rfl (by exact hd) ?_;refine zz 4 ?_;refine O.v0 (.g rfl rfl) rfl zC rfl rfl (dhas_c _ rfl zA zF zI) ?_;refine zz 3 ?_;exact S.rt results123 rfl hR ⟨by simp [hasR,hv,hd],rfl⟩
theorem wdot_c {r:Fr} {cs:List Value} {x:RecT} (h:RecRp.rel r cs x):Con prog 124 #[.agg cs.toArray] r [] (Ret fun v η=>v=.agg #[.int .i64 x.2.1,.int .i64 x.2.2.1]∧η=[]):=by
 obtain ⟨v3,v5,v6,rfl,k0,k1,k2,k3,k5,k6⟩:=RecRp.open h;refine Con.o func124 fun g hg R hR=>?_;refine S.seq<|S.region rfl<|O.opE (.p rfl) (.box (cs:=[_,_,_,_,_,_,_]) rfl rfl) ?_;rintro _ _ ⟨b1,rfl,rfl⟩;refine O.opE (.p rfl) (.alloc (cs:=[.int .i64 0,.int .i64 0]) zeroValue166 rfl) ?_;rintro _ _ ⟨b2,rfl,rfl⟩;refine zz 9 ?_;refine O.op (.p rfl) (.build (cs:=[_,_]) underlying166 rfl rfl rfl rfl rfl) ?_;refine zz 1 ?_;refine O.nil<|S.retCellAgg results124 isAgg166 zC rfl zB fun w hw=>Holds.end_ hR hw ?_;exact pk ⟨rfl,rfl⟩
theorem wshaped_c {r:Fr} {cs:List Value} {x:RecT} (h:RecRp.rel r cs x):Con prog 122 #[.agg cs.toArray] r [] (Ret fun v η=>v=.bool (shaped x)∧η=[]):=by
 obtain ⟨v3,v5,v6,rfl,k0,k1,k2,k3,k5,k6⟩:=RecRp.open h;refine Con.o func122 fun g hg R hR=>?_;have h:=h.mono hg;have k3:=k3.mono hg;have k5:=k5.mono hg;have k6:=k6.mono hg;obtain ⟨a3,c3,rfl⟩:=k3.shape;obtain ⟨a5,c5,rfl⟩:=k5.shape;obtain ⟨a6,c6,rfl⟩:=k6.shape
 by_cases n1:x.1.length<1
 ·have e:shaped x=false:=by unfold shaped;rw [decide_eq_false (show ¬ 1≤x.1.length by omega)];rfl
  refine S.seq<|S.region rfl<|O.opE (.p rfl) (.box (cs:=[_,_,_,_,_,_,_]) rfl rfl) ?_;rintro _ _ ⟨b1,rfl,rfl⟩;refine zz 12 ?_;refine O.sT 8 rfl zJ ?_;refine zz 9 ?_;exact S.rt results122 rfl hR ⟨by rw [e],rfl⟩
 have e1:1≤x.1.length:=by omega
 by_cases n2:64<x.1.length
 ·have e:shaped x=false:=by unfold shaped;rw [decide_eq_false (show ¬ x.1.length≤64 by omega)];simp
  refine S.seq<|S.region rfl<|O.opE (.p rfl) (.box (cs:=[_,_,_,_,_,_,_]) rfl rfl) ?_;rintro _ _ ⟨b1,rfl,rfl⟩;refine zz 12 ?_;refine O.sF 8 rfl zJ ?_;refine zz 10 ?_;refine O.sT 13 rfl zJ ?_;refine zz 9 ?_;exact S.rt results122 rfl hR ⟨by rw [e],rfl⟩
 have e2:x.1.length≤64:=by omega
 have hv1:vecOk [rDot x]=dotOk (rDot x):=by
  cases hd:dotOk (rDot x) with
  |true=>rw [vecOk_iff];exact ⟨fun d q=>by rw [List.mem_singleton.1 q];exact hd,List.pairwise_singleton ..⟩
  |false =>
   rw [Bool.eq_false_iff]
   intro q
   have:=(vecOk_iff.1 q).1 _ (List.mem_singleton.2 rfl);rw [hd] at this;cases this
 cases e3:dotOk (rDot x) with
 |false =>
  have e:shaped x=false:=by unfold shaped;rw [e3];simp
  refine S.seq<|S.region rfl<|O.opE (.p rfl) (.box (cs:=[_,_,_,_,_,_,_]) rfl rfl) ?_;rintro _ _ ⟨b1,rfl,rfl⟩;refine zz 12 ?_;refine O.sF 8 rfl zJ ?_;refine zz 10 ?_;refine O.sF 13 rfl zJ ?_;refine zz 6 ?_;refine O.v0 (.p rfl) rfl zC rfl rfl (wdot_c (by first|assumption|exact Rp.rel.mono zF hg)) ?_;refine O.opE (.p rfl) (.litP (T:=DotRp) (ys:=[rDot x]) underlying72 elem166 zE rfl rfl ⟨DotRp.mk k1 k2,trivial⟩ zE) ?_;rintro _ _ ⟨a16,c16,rfl,rfl⟩;refine O.frzA zB fun g hs hm ha16=>?_;replace hg:=Fr.sub_trans hg hs;replace hR:=melted hR hm
  try replace h:=h.mono hs
  try replace k3:=k3.mono hs
  try replace k5:=k5.mono hs
  try replace k6:=k6.mono hs
  clear hs hm;refine O.v0 (.p rfl) rfl zC rfl rfl (vRight_c zA) ?_;refine O.sF 17 rfl (by rw [hv1,e3]) ?_;refine zz 10 ?_;exact S.rt results122 rfl hR ⟨by rw [e],rfl⟩
 |true =>
  cases e4:vecOk x.2.2.2.1 with
  |false =>
   have e:shaped x=false:=by unfold shaped;rw [e4];simp
   refine S.seq<|S.region rfl<|O.opE (.p rfl) (.box (cs:=[_,_,_,_,_,_,_]) rfl rfl) ?_;rintro _ _ ⟨b1,rfl,rfl⟩;refine zz 12 ?_;refine O.sF 8 rfl zJ ?_;refine zz 10 ?_;refine O.sF 13 rfl zJ ?_;refine zz 6 ?_;refine O.v0 (.p rfl) rfl zC rfl rfl (wdot_c (by first|assumption|exact Rp.rel.mono zF hg)) ?_;refine O.opE (.p rfl) (.litP (T:=DotRp) (ys:=[rDot x]) underlying72 elem166 zE rfl rfl ⟨DotRp.mk k1 k2,trivial⟩ zE) ?_;rintro _ _ ⟨a16,c16,rfl,rfl⟩;refine O.frzA zB fun g hs hm ha16=>?_;replace hg:=Fr.sub_trans hg hs;replace hR:=melted hR hm
   try replace h:=h.mono hs
   try replace k3:=k3.mono hs
   try replace k5:=k5.mono hs
   try replace k6:=k6.mono hs
   clear hs hm;refine O.v0 (.p rfl) rfl zC rfl rfl (vRight_c zA) ?_;refine O.sT 17 rfl (by rw [hv1,e3]) ?_;refine zz 9 ?_;refine O.v0 (.p rfl) rfl zC rfl rfl (vRight_c zA) ?_;refine O.sF 22 rfl (by exact e4) ?_;refine zz 10 ?_;exact S.rt results122 rfl hR ⟨by rw [e],rfl⟩
  |true =>
   cases e5:hasR x.2.2.2.1 (rDot x) with
   |true =>
    have e:shaped x=false:=by unfold shaped;rw [e5];simp
    refine S.seq<|S.region rfl<|O.opE (.p rfl) (.box (cs:=[_,_,_,_,_,_,_]) rfl rfl) ?_;rintro _ _ ⟨b1,rfl,rfl⟩;refine zz 12 ?_;refine O.sF 8 rfl zJ ?_;refine zz 10 ?_;refine O.sF 13 rfl zJ ?_;refine zz 6 ?_;refine O.v0 (.p rfl) rfl zC rfl rfl (wdot_c (by first|assumption|exact Rp.rel.mono zF hg)) ?_;refine O.opE (.p rfl) (.litP (T:=DotRp) (ys:=[rDot x]) underlying72 elem166 zE rfl rfl ⟨DotRp.mk k1 k2,trivial⟩ zE) ?_;rintro _ _ ⟨a16,c16,rfl,rfl⟩;refine O.frzA zB fun g hs hm ha16=>?_;replace hg:=Fr.sub_trans hg hs;replace hR:=melted hR hm
    try replace h:=h.mono hs
    try replace k3:=k3.mono hs
    try replace k5:=k5.mono hs
    try replace k6:=k6.mono hs
    clear hs hm;refine O.v0 (.p rfl) rfl zC rfl rfl (vRight_c zA) ?_;refine O.sT 17 rfl (by rw [hv1,e3]) ?_;refine zz 9 ?_;refine O.v0 (.p rfl) rfl zC rfl rfl (vRight_c zA) ?_;refine O.sT 22 rfl (by exact e4) ?_;refine zz 4 ?_;refine S.frzO zB fun g hs hm hbx=>?_;replace hg:=Fr.sub_trans hg hs;replace hR:=melted hR hm
    try replace h:=h.mono hs
    try replace k3:=k3.mono hs
    try replace k5:=k5.mono hs
    try replace k6:=k6.mono hs
    try replace ha16:=ha16.mono hs
    clear hs hm;refine S.regionD (L:=.range 7) F.mixed zC ?_;refine zz 3 ?_;refine .quiet (.p rfl) rfl (fun _=>.loadAgg isAgg163 zC rfl hbx) ?_;refine OD.v0 (.p rfl) zC rfl zC rfl rfl (wdot_c (by first|assumption|exact Rp.rel.mono zF hg)) ?_;refine OD.v0 (.p rfl) zC rfl zC rfl rfl (vHas_c (rDot x) rfl zA) ?_;refine OD.sT 29 rfl (by exact e5) ?_;refine zz 7 ?_;exact S.rt results122 rfl hR ⟨by rw [e],rfl⟩
   |false =>
    have e:shaped x=(decide (x.2.2.2.2.2.1.length≤1024) && (!x.2.2.2.2.1 ||decide (x.2.2.2.2.2.1.length=0))):=by unfold shaped;rw [decide_eq_true e1,decide_eq_true e2,e3,e4,e5];simp
    rw [e] at hR;clear e;refine S.seq<|S.region rfl<|O.opE (.p rfl) (.box (cs:=[_,_,_,_,_,_,_]) rfl rfl) ?_;rintro _ _ ⟨b1,rfl,rfl⟩;refine zz 12 ?_;refine O.sF 8 rfl zJ ?_;refine zz 10 ?_;refine O.sF 13 rfl zJ ?_;refine zz 6 ?_;refine O.v0 (.p rfl) rfl zC rfl rfl (wdot_c (by first|assumption|exact Rp.rel.mono zF hg)) ?_;refine O.opE (.p rfl) (.litP (T:=DotRp) (ys:=[rDot x]) underlying72 elem166 zE rfl rfl ⟨DotRp.mk k1 k2,trivial⟩ zE) ?_;rintro _ _ ⟨a16,c16,rfl,rfl⟩;refine O.frzA zB fun g hs hm ha16=>?_;replace hg:=Fr.sub_trans hg hs;replace hR:=melted hR hm
    try replace h:=h.mono hs
    try replace k3:=k3.mono hs
    try replace k5:=k5.mono hs
    try replace k6:=k6.mono hs
    clear hs hm;refine O.v0 (.p rfl) rfl zC rfl rfl (vRight_c zA) ?_;refine O.sT 17 rfl (by rw [hv1,e3]) ?_;refine zz 9 ?_;refine O.v0 (.p rfl) rfl zC rfl rfl (vRight_c zA) ?_;refine O.sT 22 rfl (by exact e4) ?_;refine zz 4 ?_;refine S.frzO zB fun g hs hm hbx=>?_;replace hg:=Fr.sub_trans hg hs;replace hR:=melted hR hm
    try replace h:=h.mono hs
    try replace k3:=k3.mono hs
    try replace k5:=k5.mono hs
    try replace k6:=k6.mono hs
    try replace ha16:=ha16.mono hs
    clear hs hm;refine S.regionD (L:=.range 7) F.mixed zC ?_;refine zz 3 ?_;refine .quiet (.p rfl) rfl (fun _=>.loadAgg isAgg163 zC rfl hbx) ?_;refine OD.v0 (.p rfl) zC rfl zC rfl rfl (wdot_c (by first|assumption|exact Rp.rel.mono zF hg)) ?_;refine OD.v0 (.p rfl) zC rfl zC rfl rfl (vHas_c (rDot x) rfl zA) ?_;refine OD.sF 29 rfl (by exact e5) ?_;refine zz 3 ?_;refine S.skip (S.inBlock (S.seq ?_))
    by_cases n6:1024<x.2.2.2.2.2.1.length
    ·
     refine zz 1 ?_;refine O.op (.p rfl) (.fieldAddr fld163x0 rfl)<|O.op (.p rfl) (.fieldAddr fld74x5 rfl) ?_;refine zz 3 ?_;refine O.sF 34 rfl zJ ?_;refine zz 15 ?_;exact S.rt results122 rfl hR ⟨by rw [decide_eq_false (show ¬ x.2.2.2.2.2.1.length≤1024 by omega)];rfl,rfl⟩
    have e6:x.2.2.2.2.2.1.length≤1024:=by omega
    cases e7:x.2.2.2.2.1 with
    |false =>
     refine zz 1 ?_;refine O.op (.p rfl) (.fieldAddr fld163x0 rfl)<|O.op (.p rfl) (.fieldAddr fld74x5 rfl) ?_;refine zz 3 ?_;refine O.sT 34 rfl zJ ?_;refine zz 1 ?_;refine O.op (.g rfl rfl) (.fieldAddr fld163x0 rfl)<|O.op (.g rfl rfl) (.fieldAddr fld74x4 rfl) ?_;refine zz 1 ?_;refine O.slot 38 (v' :=.bool false) rfl (by rw [e7]) ?_;refine O.op (.g rfl rfl) ((by first|exact .notD rfl|exact .not rfl)) ?_;refine O.sT 39 rfl (by rfl) ?_;refine zz 10 ?_;exact S.rt results122 rfl hR ⟨by rw [decide_eq_true e6,e7];rfl,rfl⟩
    |true =>
     refine zz 1 ?_;refine O.op (.p rfl) (.fieldAddr fld163x0 rfl)<|O.op (.p rfl) (.fieldAddr fld74x5 rfl) ?_;refine zz 3 ?_;refine O.sT 34 rfl zJ ?_;refine zz 1 ?_;refine O.op (.g rfl rfl) (.fieldAddr fld163x0 rfl)<|O.op (.g rfl rfl) (.fieldAddr fld74x4 rfl) ?_;refine zz 1 ?_;refine O.slot 38 (v' :=.bool true) rfl (by rw [e7]) ?_;refine O.op (.g rfl rfl) ((by first|exact .notD rfl|exact .not rfl)) ?_;refine O.sF 39 rfl (by rfl) ?_;refine zz 1 ?_;refine O.op (.g rfl rfl) (.fieldAddr fld163x0 rfl)<|O.op (.g rfl rfl) (.fieldAddr fld74x5 rfl) ?_;refine zz 7 ?_;exact S.rt results122 rfl hR ⟨by rw [decide_eq_true e6,e7];simp,rfl⟩
def txtRows (x:RecT):List (List UInt8):=[[1],bytesOf x.1,be x.2.1,be x.2.2.1,be x.2.2.2.1.length]
def dotRows (l:List DotT):List (List UInt8):=(l.map fun d=>[be d.1,be d.2.1]).flatten
theorem dotRows_snoc (l:List DotT) (d:DotT):dotRows (l++[d])=dotRows l++[be d.1,be d.2.1]:=by simp [dotRows]
theorem dotRows_flat (l:List DotT):(dotRows l).flatten=dotsB l:=by
 induction l with
 |nil=>rfl
 |cons d l ih=>rw [dotsB_cons,← ih];simp [dotRows]
theorem txt_all (x:RecT):(txtRows x++dotRows x.2.2.2.1++[[goneB x.2.2.2.2.1],bytesOf x.2.2.2.2.2.1]).flatten=recText x:=by
 simp [txtRows,recText,dotRows_flat]
theorem wtext_c {r:Fr} {cs:List Value} {x:RecT} (h:RecRp.rel r cs x) (hs:shaped x=true):Con prog 311 #[.agg cs.toArray] r [] (Ret fun v η=>∃ a c,v=.slice a (recText x).length c∧η=[OwnP Rp.u8 5 (.slice a (recText x).length c) (recText x)]):=by
 have hb:=shaped_iff.1 hs;have hl:=recText_le hs;have hdl:=rises_len hb.2.2.2.1;obtain ⟨v3,v5,v6,rfl,k0,k1,k2,k3,k5,k6⟩:=RecRp.open h;refine Con.o func311 fun g hg R hR=>?_;have h:=h.mono hg;have k3:=k3.mono hg;have k5:=k5.mono hg;have k6:=k6.mono hg;obtain ⟨a3,c3,rfl⟩:=k3.shape;obtain ⟨a5,c5,rfl⟩:=k5.shape;obtain ⟨a6,c6,rfl⟩:=k6.shape;refine S.seq<|S.region rfl<|O.opE (.p rfl) (.box (cs:=[_,_,_,_,_,_,_]) rfl rfl) ?_;rintro _ _ ⟨b1,rfl,rfl⟩;refine zz 4 ?_;refine O.opE (.p rfl) (.litP (T:=Rp.u8) (ys:=[0]) underlying31 elem5 zE rfl rfl ⟨rfl,trivial⟩ zE) ?_;rintro _ _ ⟨a7,c7,rfl,rfl⟩;refine zz 4 ?_;refine S.cut2 (fun (q:Option Addr × Nat)=>True) (fun (q:Option Addr × Nat)=>[(3,.slice q.1 1 q.2)]) [(1,_)] (fun (q:Option Addr × Nat)=>[obj b1 163 [.string (str x.1),.int .i64 x.2.1,.int .i64 x.2.2.1,.slice a3 x.2.2.2.1.length c3,.bool x.2.2.2.2.1,.slice a5 x.2.2.2.2.2.1.length c5,.slice a6 x.2.2.2.2.2.2.1.length c6],OwnP Rp.u8 5 (.slice q.1 1 q.2) [goneB x.2.2.2.2.1]]) zq (fun key=>?_) (fun q hx=>?_)
 ·have hm1:=meltRefl (g:=g)
  refine zz 5 ?_;refine S.cd rfl (fun h10=>?_) fun h10=>?_
  ·refine zz 2 ?_
   refine O.opE (.p rfl) (.idxOwn (T:=Rp.u8) underlying31 size5 rfl rfl (show _=(((0):Nat):Int) by omega) zB zL) ?_;rintro _ _ ⟨p12,rfl,hp12,rfl⟩;refine O.opU rfl (.storeOwn size5 rfl hp12 rfl zB zL (show _=_ by rfl:Rp.rel _ _ _ ((1:UInt8)))) ?_;refine O.nil<|S.ownIs (T:=Rp.u8) (xs' :=[goneB x.2.2.2.2.1]) zB rfl (by rw [h10];rfl) ?_;refine S.pk ?_ (S.weaken ?_ (key ((a7,c7)) (by trivial)))
   ·repeat (first|exact zpa|exact zpn|(apply zpc;focus (repeat (first|exact zh|apply zt)))|apply zps)
   repeat (first|exact Sub.nil|refine Sub.cons rfl ?_)
  ·refine S.skip<|S.ownIs (T:=Rp.u8) (xs' :=[goneB x.2.2.2.2.1]) zB rfl (by rw [h10];rfl) ?_
   refine S.pk ?_ (S.weaken ?_ (key ((a7,c7)) (by trivial)))
   ·repeat (first|exact zpa|exact zpn|(apply zpc;focus (repeat (first|exact zh|apply zt)))|apply zps)
   repeat (first|exact Sub.nil|refine Sub.cons rfl ?_)
 ·refine S.seq<|S.frzO zB fun g hs hm hbx=>?_
  replace hg:=Fr.sub_trans hg hs;replace hR:=melted hR hm
  try replace h:=h.mono hs
  try replace k3:=k3.mono hs
  try replace k5:=k5.mono hs
  try replace k6:=k6.mono hs
  clear hs hm;refine S.regionJ (L:=[1,2,3,6,7,8,10,11,12,14,15,16,17,0,4,5,9,13,18,19,20]) (fun (s:(Option Addr × Nat) × List Value)=>[(4,.slice s.1.1 s.2.length s.1.2)]) [(1,_),(3,_)] (fun (s:(Option Addr × Nat) × List Value)=>[RowsP Rp.u8 5 s.2 (txtRows x),OwnP Rp.val 31 (.slice s.1.1 s.2.length s.1.2) s.2,OwnP Rp.u8 5 (.slice q.1 1 q.2) [goneB x.2.2.2.2.1]]) zq F.mixed zC (fun kk key=>?_) (fun s=>?_)
  ·refine zz 13 ?_
   refine OD.alt2 0 4 [4,5,9,13,18,19,20] [0,5,9,13,18,19,20] zC rfl rfl ?_ ?_
   ·refine ODt.litP (T:=Rp.u8) (ys:=[1]) (.p rfl) zC underlying31 elem5 zE rfl rfl ⟨rfl,trivial⟩ zE (fun a13 c13=>?_)
    refine OD.strBytesO (.p rfl) zC underlying9 underlying31 underlying5 rfl zW (fun a17 c17=>?_);refine OD.callB (.p rfl) zC rfl zC rfl rfl (bs:=[OwnP Rp.u8 5 (.slice a17 x.1.length c17) x.1]) zK (fun m hm hd=>wBytes_c (hm.arr.right hd) zD) ?_;rintro _ _ ⟨a18,c18,rfl,rfl⟩;refine OD.call0 (.p rfl) zC rfl zC rfl rfl (wNumber_c _) ?_;rintro _ _ ⟨a22,c22,rfl,rfl⟩;refine OD.call0 (.p rfl) zC rfl zC rfl rfl (wNumber_c _) ?_;rintro _ _ ⟨a26,c26,rfl,rfl⟩;refine OD.call0 (.p rfl) zC rfl zC rfl rfl (wNumber_c _) ?_;rintro _ _ ⟨a31,c31,rfl,rfl⟩;refine OD.litP (T:=Rp.val) (ys:=[_,_,_,_,_]) (.p rfl) zC underlying39 elem31 zE rfl rfl ⟨⟨rfl,rfl⟩,⟨rfl,rfl⟩,⟨rfl,rfl⟩,⟨rfl,rfl⟩,⟨rfl,rfl⟩,trivial⟩ zE (fun a32 c32=>?_);refine OD.q 1 rfl<|ODx.nil<|S.eachOf (OwnP Rp.u8 5) (bs:=[.slice a13 1 c13,.slice a18 (bytesOf x.1).length c18,.slice a22 8 c22,.slice a26 8 c26,.slice a31 8 c31]) (ys:=txtRows x) zK rfl ?_;refine S.pk ?_ (S.weaken (Sub.app zq zq) (key ((a32,c32),[.slice a13 1 c13,.slice a18 (bytesOf x.1).length c18,.slice a22 8 c22,.slice a26 8 c26,.slice a31 8 c31])))
    try dsimp only
    repeat (first|exact zpa|exact zpn|(apply zpc;focus (repeat (first|exact zh|apply zt)))|apply zps)
   ·refine ODt.strBytesO (.p rfl) zC underlying9 underlying31 underlying5 rfl zW (fun a17 c17=>?_)
    refine OD.alt2 0 5 [5,9,13,18,19,20] [0,9,13,18,19,20] zC rfl rfl ?_ ?_
    ·refine ODt.litP (T:=Rp.u8) (ys:=[1]) (.p rfl) zC underlying31 elem5 zE rfl rfl ⟨rfl,trivial⟩ zE (fun a13 c13=>?_)
     refine OD.callB (.p rfl) zC rfl zC rfl rfl (bs:=[OwnP Rp.u8 5 (.slice a17 x.1.length c17) x.1]) zK (fun m hm hd=>wBytes_c (hm.arr.right hd) zD) ?_;rintro _ _ ⟨a18,c18,rfl,rfl⟩;refine OD.call0 (.p rfl) zC rfl zC rfl rfl (wNumber_c _) ?_;rintro _ _ ⟨a22,c22,rfl,rfl⟩;refine OD.call0 (.p rfl) zC rfl zC rfl rfl (wNumber_c _) ?_;rintro _ _ ⟨a26,c26,rfl,rfl⟩;refine OD.call0 (.p rfl) zC rfl zC rfl rfl (wNumber_c _) ?_;rintro _ _ ⟨a31,c31,rfl,rfl⟩;refine OD.litP (T:=Rp.val) (ys:=[_,_,_,_,_]) (.p rfl) zC underlying39 elem31 zE rfl rfl ⟨⟨rfl,rfl⟩,⟨rfl,rfl⟩,⟨rfl,rfl⟩,⟨rfl,rfl⟩,⟨rfl,rfl⟩,trivial⟩ zE (fun a32 c32=>?_);refine OD.q 1 rfl<|ODx.nil<|S.eachOf (OwnP Rp.u8 5) (bs:=[.slice a13 1 c13,.slice a18 (bytesOf x.1).length c18,.slice a22 8 c22,.slice a26 8 c26,.slice a31 8 c31]) (ys:=txtRows x) zK rfl ?_;refine S.pk ?_ (S.weaken (Sub.app zq zq) (key ((a32,c32),[.slice a13 1 c13,.slice a18 (bytesOf x.1).length c18,.slice a22 8 c22,.slice a26 8 c26,.slice a31 8 c31])))
     try dsimp only
     repeat (first|exact zpa|exact zpn|(apply zpc;focus (repeat (first|exact zh|apply zt)))|apply zps)
    ·refine ODt.callB (.p rfl) zC rfl zC rfl rfl (bs:=[OwnP Rp.u8 5 (.slice a17 x.1.length c17) x.1]) zK (fun m hm hd=>wBytes_c (hm.arr.right hd) zD) ?_
     rintro _ _ ⟨a18,c18,rfl,rfl⟩;refine OD.alt2 0 9 [9,13,18,19,20] [0,13,18,19,20] zC rfl rfl ?_ ?_
     ·refine ODt.litP (T:=Rp.u8) (ys:=[1]) (.p rfl) zC underlying31 elem5 zE rfl rfl ⟨rfl,trivial⟩ zE (fun a13 c13=>?_)
      refine OD.call0 (.p rfl) zC rfl zC rfl rfl (wNumber_c _) ?_;rintro _ _ ⟨a22,c22,rfl,rfl⟩;refine OD.call0 (.p rfl) zC rfl zC rfl rfl (wNumber_c _) ?_;rintro _ _ ⟨a26,c26,rfl,rfl⟩;refine OD.call0 (.p rfl) zC rfl zC rfl rfl (wNumber_c _) ?_;rintro _ _ ⟨a31,c31,rfl,rfl⟩;refine OD.litP (T:=Rp.val) (ys:=[_,_,_,_,_]) (.p rfl) zC underlying39 elem31 zE rfl rfl ⟨⟨rfl,rfl⟩,⟨rfl,rfl⟩,⟨rfl,rfl⟩,⟨rfl,rfl⟩,⟨rfl,rfl⟩,trivial⟩ zE (fun a32 c32=>?_);refine OD.q 1 rfl<|ODx.nil<|S.eachOf (OwnP Rp.u8 5) (bs:=[.slice a13 1 c13,.slice a18 (bytesOf x.1).length c18,.slice a22 8 c22,.slice a26 8 c26,.slice a31 8 c31]) (ys:=txtRows x) zK rfl ?_;refine S.pk ?_ (S.weaken (Sub.app zq zq) (key ((a32,c32),[.slice a13 1 c13,.slice a18 (bytesOf x.1).length c18,.slice a22 8 c22,.slice a26 8 c26,.slice a31 8 c31])))
      try dsimp only
      repeat (first|exact zpa|exact zpn|(apply zpc;focus (repeat (first|exact zh|apply zt)))|apply zps)
     ·refine ODt.call0 (.p rfl) zC rfl zC rfl rfl (wNumber_c _) ?_
      rintro _ _ ⟨a22,c22,rfl,rfl⟩;refine OD.alt2 0 13 [13,18,19,20] [0,18,19,20] zC rfl rfl ?_ ?_
      ·refine ODt.litP (T:=Rp.u8) (ys:=[1]) (.p rfl) zC underlying31 elem5 zE rfl rfl ⟨rfl,trivial⟩ zE (fun a13 c13=>?_)
       refine OD.call0 (.p rfl) zC rfl zC rfl rfl (wNumber_c _) ?_;rintro _ _ ⟨a26,c26,rfl,rfl⟩;refine OD.call0 (.p rfl) zC rfl zC rfl rfl (wNumber_c _) ?_;rintro _ _ ⟨a31,c31,rfl,rfl⟩;refine OD.litP (T:=Rp.val) (ys:=[_,_,_,_,_]) (.p rfl) zC underlying39 elem31 zE rfl rfl ⟨⟨rfl,rfl⟩,⟨rfl,rfl⟩,⟨rfl,rfl⟩,⟨rfl,rfl⟩,⟨rfl,rfl⟩,trivial⟩ zE (fun a32 c32=>?_);refine OD.q 1 rfl<|ODx.nil<|S.eachOf (OwnP Rp.u8 5) (bs:=[.slice a13 1 c13,.slice a18 (bytesOf x.1).length c18,.slice a22 8 c22,.slice a26 8 c26,.slice a31 8 c31]) (ys:=txtRows x) zK rfl ?_;refine S.pk ?_ (S.weaken (Sub.app zq zq) (key ((a32,c32),[.slice a13 1 c13,.slice a18 (bytesOf x.1).length c18,.slice a22 8 c22,.slice a26 8 c26,.slice a31 8 c31])))
       try dsimp only
       repeat (first|exact zpa|exact zpn|(apply zpc;focus (repeat (first|exact zh|apply zt)))|apply zps)
      ·refine ODt.call0 (.p rfl) zC rfl zC rfl rfl (wNumber_c _) ?_
       rintro _ _ ⟨a26,c26,rfl,rfl⟩;refine OD.alt2 0 18 [18,19,20] [0,19,20] zC rfl rfl ?_ ?_
       ·refine ODt.litP (T:=Rp.u8) (ys:=[1]) (.p rfl) zC underlying31 elem5 zE rfl rfl ⟨rfl,trivial⟩ zE (fun a13 c13=>?_)
        refine OD.call0 (.p rfl) zC rfl zC rfl rfl (wNumber_c _) ?_;rintro _ _ ⟨a31,c31,rfl,rfl⟩;refine OD.litP (T:=Rp.val) (ys:=[_,_,_,_,_]) (.p rfl) zC underlying39 elem31 zE rfl rfl ⟨⟨rfl,rfl⟩,⟨rfl,rfl⟩,⟨rfl,rfl⟩,⟨rfl,rfl⟩,⟨rfl,rfl⟩,trivial⟩ zE (fun a32 c32=>?_);refine OD.q 1 rfl<|ODx.nil<|S.eachOf (OwnP Rp.u8 5) (bs:=[.slice a13 1 c13,.slice a18 (bytesOf x.1).length c18,.slice a22 8 c22,.slice a26 8 c26,.slice a31 8 c31]) (ys:=txtRows x) zK rfl ?_;refine S.pk ?_ (S.weaken (Sub.app zq zq) (key ((a32,c32),[.slice a13 1 c13,.slice a18 (bytesOf x.1).length c18,.slice a22 8 c22,.slice a26 8 c26,.slice a31 8 c31])))
        try dsimp only
        repeat (first|exact zpa|exact zpn|(apply zpc;focus (repeat (first|exact zh|apply zt)))|apply zps)
       ·refine ODt.call0 (.p rfl) zC rfl zC rfl rfl (wNumber_c _) ?_
        rintro _ _ ⟨a31,c31,rfl,rfl⟩;refine OD.litP (T:=Rp.u8) (ys:=[1]) (.p rfl) zC underlying31 elem5 zE rfl rfl ⟨rfl,trivial⟩ zE (fun a13 c13=>?_);refine OD.litP (T:=Rp.val) (ys:=[_,_,_,_,_]) (.p rfl) zC underlying39 elem31 zE rfl rfl ⟨⟨rfl,rfl⟩,⟨rfl,rfl⟩,⟨rfl,rfl⟩,⟨rfl,rfl⟩,⟨rfl,rfl⟩,trivial⟩ zE (fun a32 c32=>?_);refine OD.q 1 rfl<|ODx.nil<|S.eachOf (OwnP Rp.u8 5) (bs:=[.slice a13 1 c13,.slice a18 (bytesOf x.1).length c18,.slice a22 8 c22,.slice a26 8 c26,.slice a31 8 c31]) (ys:=txtRows x) zK rfl ?_;refine S.pk ?_ (S.weaken (Sub.app zq zq) (key ((a32,c32),[.slice a13 1 c13,.slice a18 (bytesOf x.1).length c18,.slice a22 8 c22,.slice a26 8 c26,.slice a31 8 c31])))
        try dsimp only
        repeat (first|exact zpa|exact zpn|(apply zpc;focus (repeat (first|exact zh|apply zt)))|apply zps)
  refine S.factS (B:=RowsP Rp.u8 5 s.2 (txtRows x)) zB (fun _ z=>EachP.len z) fun hs5=>?_;refine zz 3 ?_;refine O.op (.p rfl) (.fieldAddr fld163x0 rfl)<|O.op (.p rfl) (.fieldAddr fld74x3 rfl) ?_;refine zz 5 ?_;refine S.loopK2 (ι:=Nat) (κ:=(Option Addr × Nat) × List Value) (fun i p=>i≤x.2.2.2.1.length∧p.2.length=5+2*i) (fun i p=>[(37,.int .i64 (i:Int)),(4,.slice p.1.1 p.2.length p.1.2)]) [(1,_),(3,_),(35,_),(36,_)] (fun i p=>[RowsP Rp.u8 5 p.2 (txtRows x++dotRows (x.2.2.2.1.take i)),OwnP Rp.val 31 (.slice p.1.1 p.2.length p.1.2) p.2,OwnP Rp.u8 5 (.slice q.1 1 q.2) [goneB x.2.2.2.2.1]]) (fun i p=>x.2.2.2.1.length - i) (0) (s) (by exact ⟨by simp,hs5⟩) zq zq rfl fun i p hx ih=>?_;have hm1:=meltRefl (g:=g);obtain ⟨hx1,hx2⟩:=hx;refine zz 5 ?_;refine S.cd rfl (fun h38=>?_) fun h38=>?_
  ·have hi:i<x.2.2.2.1.length:=by omega
   have hrow:txtRows x++dotRows (x.2.2.2.1.take i)++[be x.2.2.2.1[i].1]++[be x.2.2.2.1[i].2.1]=txtRows x++dotRows (x.2.2.2.1.take (i+1)):=by rw [List.take_succ_eq_append_getElem hi,dotRows_snoc];simp
   refine zz 5 ?_;refine O.ia (.p rfl) underlying72 size166 rfl rfl rfl zA (h:=fun p39 cs39 hp39 hr39=>?_);obtain ⟨rfl,hi39,hj39⟩:=DotRp.open hr39;refine O.op (.p rfl) (.loadAgg isAgg166 zC rfl hp39) ?_;refine O.opE (.p rfl) (.alloc (cs:=[.int .i64 0,.int .i64 0]) zeroValue166 rfl) ?_;rintro _ _ ⟨b6,rfl,rfl⟩;refine zz 1 ?_;refine O.nil<|S.frzO zB fun g hs hm hd6=>?_;replace hg:=Fr.sub_trans hg hs;replace hR:=melted hR hm
   try replace h:=h.mono hs
   try replace k3:=k3.mono hs
   try replace k5:=k5.mono hs
   try replace k6:=k6.mono hs
   try replace hbx:=hbx.mono hs
   try replace hp39:=hp39.mono hs
   try replace hr39:=hr39.mono hs
   replace hm1:=meltTrans hm1 hm;clear hs hm;refine S.regionD (L:=[0,1,2,4,5,3,6,7,8,9]) F.mixed zC ?_;refine zz 5 ?_;refine OD.call0 (.p rfl) zC rfl zC rfl rfl (wNumber_c _) ?_;rintro _ _ ⟨a44,c44,rfl,rfl⟩;refine OD.call0 (.p rfl) zC rfl zC rfl rfl (wNumber_c _) ?_;rintro _ _ ⟨a47,c47,rfl,rfl⟩;refine OD.litP (T:=Rp.val) (ys:=[_,_]) (.p rfl) zC underlying39 elem31 zE rfl rfl ⟨⟨rfl,rfl⟩,⟨rfl,rfl⟩,trivial⟩ zE (fun a48 c48=>?_);refine OD.appendO (.p rfl) zC (T:=Rp.val) underlying39 elem31 zE rfl rfl zB zB zI zI (fun a49 c49=>?_);refine zz 7 ?_;refine S.each (A:=OwnP Rp.u8 5) (bs:=p.2) (b:=.slice a44 8 c44) (a:=be x.2.2.2.1[i].1) zB zB ?_;refine S.each (A:=OwnP Rp.u8 5) (bs:=p.2++[.slice a44 8 c44]) (b:=.slice a47 8 c47) (a:=be x.2.2.2.1[i].2.1) zB zB ?_;rw [hrow,List.append_assoc,← List.length_append];exact S.melt hm1 (S.pw (ih (i+1) (((a49,c49),p.2++[.slice a44 8 c44,.slice a47 8 c47])) zP zD))
  ·clear ih
   have hi:i=x.2.2.2.1.length:=by omega
   subst hi;rw [List.take_length];have hrow:txtRows x++dotRows x.2.2.2.1++[[goneB x.2.2.2.2.1]]++[bytesOf x.2.2.2.2.2.1]=txtRows x++dotRows x.2.2.2.1++[[goneB x.2.2.2.2.1],bytesOf x.2.2.2.2.2.1]:=by simp
   have hfl:=txt_all x;refine zz 5 ?_;refine O.op (.p rfl) (.fieldAddr fld163x0 rfl)<|O.op (.p rfl) (.fieldAddr fld74x5 rfl) ?_;refine zz 1 ?_;refine O.call0 (.p rfl) rfl zC rfl rfl (wBytes_c zA zI) ?_;rintro _ _ ⟨a56,c56,rfl,rfl⟩;refine O.opE (.p rfl) (.litP (T:=Rp.val) (ys:=[_,_]) underlying39 elem31 zE rfl rfl ⟨⟨rfl,rfl⟩,⟨rfl,rfl⟩,trivial⟩ zE) ?_;rintro _ _ ⟨a57,c57,rfl,rfl⟩;refine O.opE (.p rfl) (.appendO (T:=Rp.val) underlying39 elem31 zE rfl rfl zB zB zI zI) ?_;rintro _ _ ⟨a58,c58,rfl,rfl⟩;refine O.each (A:=OwnP Rp.u8 5) (bs:=p.2) (b:=.slice q.1 1 q.2) (a:=[goneB x.2.2.2.2.1]) zB zB ?_;refine O.each (A:=OwnP Rp.u8 5) (bs:=p.2++[.slice q.1 1 q.2]) (b:=.slice a56 (bytesOf x.2.2.2.2.2.1).length c56) (a:=bytesOf x.2.2.2.2.2.1) zB zB ?_;rw [hrow,List.append_assoc];refine O.frzR zB zB fun g hs hm hall=>?_;replace hg:=Fr.sub_trans hg hs;replace hR:=melted hR hm
   try replace h:=h.mono hs
   try replace k3:=k3.mono hs
   try replace k5:=k5.mono hs
   try replace k6:=k6.mono hs
   try replace hbx:=hbx.mono hs
   replace hm1:=meltTrans hm1 hm;clear hs hm;refine O.call0 (.p rfl) rfl zC rfl rfl ((wJoin_c hall (by rw [hfl];omega))) ?_;rintro _ _ ⟨a59,c59,rfl,rfl⟩;refine zz 2 ?_;rw [hfl];exact S.rt results311 rfl hR ⟨a59,c59,rfl,rfl⟩
theorem rRight_c {r:Fr} {cs:List Value} {x:RecT} (h:RecRp.rel r cs x):Con prog 277 #[.agg cs.toArray] r [] (Ret fun v η=>v=.bool (recOk x)∧η=[]):=by
 obtain ⟨xa3,xa5,xa6,xc3,xc5,xc6,rfl,k0,k1,k2,k3,k5,k6⟩:=RecRp.sh h;refine Con.o func277 fun g hg R hR=>?_;have h:=h.mono hg;have k6:=k6.mono hg
 cases e:shaped x with
 |false =>
  refine S.seq<|S.region rfl<|O.opE (.p rfl) (.box (cs:=[_,_,_,_,_,_,_]) rfl rfl) ?_;rintro _ _ ⟨b1,rfl,rfl⟩;refine zz 5 ?_;refine O.op (.p rfl) (.build (cs:=[_,_,_,_,_,_,_]) underlying163 rfl rfl rfl rfl rfl)<|O.v0 (.p rfl) rfl zC rfl rfl (wshaped_c h) ?_;refine O.sF 5 rfl (by exact e) ?_;refine zz 8 ?_;exact S.rt results277 rfl hR ⟨by simp [recOk,e],rfl⟩
 |true =>
  refine S.seq<|S.region rfl<|O.opE (.p rfl) (.box (cs:=[_,_,_,_,_,_,_]) rfl rfl) ?_;rintro _ _ ⟨b1,rfl,rfl⟩;refine zz 5 ?_;refine O.op (.p rfl) (.build (cs:=[_,_,_,_,_,_,_]) underlying163 rfl rfl rfl rfl rfl)<|O.v0 (.p rfl) rfl zC rfl rfl (wshaped_c h) ?_;refine O.sT 5 rfl (by exact e) ?_;refine zz 8 ?_;exact S.rt results277 rfl hR ⟨by simp [recOk,e];omega,rfl⟩
theorem rText_c {r:Fr} {cs:List Value} {x:RecT} (h:RecRp.rel r cs x) (hs:shaped x=true):Con prog 278 #[.agg cs.toArray] r [] (Ret fun v η=>∃ a c,v=.slice a (recText x).length c∧η=[OwnP Rp.u8 5 (.slice a (recText x).length c) (recText x)]):=by
 obtain ⟨xa3,xa5,xa6,xc3,xc5,xc6,rfl,k0,k1,k2,k3,k5,k6⟩:=RecRp.sh h;refine Con.o func278 fun g hg R hR=>?_;have h:=h.mono hg;refine S.seq<|S.region rfl<|O.opE (.p rfl) (.box (cs:=[_,_,_,_,_,_,_]) rfl rfl) ?_;rintro _ _ ⟨b1,rfl,rfl⟩;refine zz 5 ?_;refine O.op (.p rfl) (.build (cs:=[_,_,_,_,_,_,_]) underlying163 rfl rfl rfl rfl rfl)<|O.opE (.p rfl) (.alloc (cs:=[.string ⟨#[]⟩,.int .i64 0,.int .i64 0,.slice none 0 0,.bool false,.slice none 0 0,.slice none 0 0]) zeroValue163 rfl) ?_;rintro _ _ ⟨b3,rfl,rfl⟩;refine zz 6 ?_;refine O.v0 (.p rfl) rfl zC rfl rfl (wshaped_c h) ?_;refine O.sT 7 rfl (by exact hs) ?_;refine zz 7 ?_;refine O.call0 (.p rfl) rfl zC rfl rfl (wtext_c (by first|assumption|exact Rp.rel.mono zF hg) zF) ?_;rintro _ _ ⟨a10,c10,rfl,rfl⟩;refine zz 2 ?_;exact S.rt results278 rfl hR ⟨a10,c10,rfl,rfl⟩
def recOut (x:RecT):List UInt8:=if recOk x then recB x else []
def recErr (x:RecT):Int:=if recOk x then 0 else 4
theorem rPut_c {r:Fr} {cs:List Value} {x:RecT} (h:RecRp.rel r cs x):Con prog 204 #[.agg cs.toArray] r [] (Ret fun v η=>∃ a c,v=.tuple #[.slice a (recOut x).length c,.int .i64 (recErr x)]∧η=[OwnP Rp.u8 5 (.slice a (recOut x).length c) (recOut x)]):=by
 obtain ⟨xa3,xa5,xa6,xc3,xc5,xc6,rfl,k0,k1,k2,k3,k5,k6⟩:=RecRp.sh h;refine Con.o func204 fun g hg R hR=>?_;have h:=h.mono hg;have k6:=k6.mono hg
 cases e:recOk x with
 |false =>
  have e1:recOut x=[]:=by simp [recOut,e]
  have e2:recErr x=4:=by simp [recErr,e]
  rw [e1,e2] at hR;refine S.seq<|S.region rfl<|O.opE (.p rfl) (.box (cs:=[_,_,_,_,_,_,_]) rfl rfl) ?_;rintro _ _ ⟨b1,rfl,rfl⟩;refine zz 7 ?_;refine O.v0 (.p rfl) rfl zC rfl rfl (rRight_c h) ?_;refine O.sF 5 rfl (by exact e) ?_;refine zz 8 ?_;refine S.addNil (T:=Rp.u8) (e:=5) ?_;refine S.ret2 results204 rfl rfl fun w hw=>Holds.end_ hR hw ?_;exact pk ⟨none,0,rfl,rfl⟩
 |true =>
  have e1:recOut x=recB x:=by simp [recOut,e]
  have e2:recErr x=0:=by simp [recErr,e]
  have hl:=recB_le e;obtain ⟨hs,hs2⟩:=recOk_iff.1 e;have hfl:[recText x,x.2.2.2.2.2.2.1].flatten=recB x:=by simp [recB]
  rw [e1,e2] at hR;refine S.seq<|S.region rfl<|O.opE (.p rfl) (.box (cs:=[_,_,_,_,_,_,_]) rfl rfl) ?_;rintro _ _ ⟨b1,rfl,rfl⟩;refine zz 7 ?_;refine O.v0 (.p rfl) rfl zC rfl rfl (rRight_c h) ?_;refine O.sT 5 rfl (by exact e) ?_;refine zz 5 ?_;refine S.frzO zB fun g hs hm hbx=>?_;replace hg:=Fr.sub_trans hg hs;replace hR:=melted hR hm
  try replace h:=h.mono hs
  try replace k6:=k6.mono hs
  clear hs hm;refine S.regionD (L:=[0,2,3,1,4,5,6,7]) F.mixed zC ?_;refine .quiet (.p rfl) rfl (fun _=>.loadAgg isAgg74 zC rfl hbx) ?_;refine zz 2 ?_;refine OD.call0 (.p rfl) zC rfl zC rfl rfl (rText_c (by first|assumption|exact Rp.rel.mono zF hg) zF) ?_;rintro _ _ ⟨a8,c8,rfl,rfl⟩;refine OD.litP (T:=Rp.val) (ys:=[_,_]) (.p rfl) zC underlying39 elem31 zE rfl rfl ⟨⟨rfl,rfl⟩,⟨rfl,rfl⟩,trivial⟩ zE (fun a11 c11=>?_);refine OD.callB (.p rfl) zC rfl zC rfl rfl (bs:=[OwnP Rp.val 31 (.slice a11 2 c11) [.slice a8 (recText x).length c8,.slice xa6 x.2.2.2.2.2.2.1.length xc6],OwnP Rp.u8 5 (.slice a8 (recText x).length c8) (recText x)]) zK (fun m hm hd=>wJoin_c (xss:=[recText x,x.2.2.2.2.2.2.1]) ((hm.arr.right hd).rows ⟨hm.tail.arr.right hd,k6.left,trivial⟩) (by rw [hfl];omega)) ?_;rintro _ _ ⟨a12,c12,rfl,rfl⟩;refine zz 3 ?_;rw [hfl];refine S.ret2 results204 rfl rfl fun w hw=>Holds.end_ hR hw ?_;exact pk ⟨a12,c12,rfl,rfl⟩
theorem rOver_c {r:Fr} {cs ds:List Value} {x y:RecT} (h:RecRp.rel r cs x) (h' :RecRp.rel r ds y):Con prog 48 #[.agg cs.toArray,.agg ds.toArray] r [] (Ret fun v η=>v=.bool (over x y)∧η=[]):=by
 obtain ⟨xa3,xa5,xa6,xc3,xc5,xc6,rfl,k0,k1,k2,k3,k5,k6⟩:=RecRp.sh h;obtain ⟨ya3,ya5,ya6,yc3,yc5,yc6,rfl,l0,l1,l2,l3,l5,l6⟩:=RecRp.sh h';refine Con.o func48 fun g hg R hR=>?_;have h:=h.mono hg;have h' :=h'.mono hg;have k3:=k3.mono hg;refine S.seq<|S.region rfl<|O.opE (.p rfl) (.box (cs:=[_,_,_,_,_,_,_]) rfl rfl) ?_;rintro _ _ ⟨b2,rfl,rfl⟩;refine O.opE (.p rfl) (.box (cs:=[_,_,_,_,_,_,_]) rfl rfl) ?_;rintro _ _ ⟨b3,rfl,rfl⟩;refine zz 3 ?_;refine S.frzO zB fun g hs hm hb3=>?_;replace hg:=Fr.sub_trans hg hs;replace hR:=melted hR hm
 try replace h:=h.mono hs
 try replace h' :=h'.mono hs
 try replace k3:=k3.mono hs
 clear hs hm;refine S.frzO zB fun g hs hm hb2=>?_;replace hg:=Fr.sub_trans hg hs;replace hR:=melted hR hm
 try replace h:=h.mono hs
 try replace h' :=h'.mono hs
 try replace k3:=k3.mono hs
 try replace hb3:=hb3.mono hs
 clear hs hm;refine S.regionD (L:=.range 8) F.mixed zC ?_;refine .quiet (.p rfl) rfl (fun _=>.loadAgg isAgg74 zC rfl hb2) ?_;refine .quiet (.p rfl) rfl (fun _=>.build (cs:=[_,_,_,_,_,_,_]) underlying163 rfl rfl rfl rfl rfl)<|.quiet (.p rfl) rfl (fun _=>.loadAgg isAgg74 zC rfl hb3) ?_;refine .quiet (.p rfl) rfl (fun _=>.build (cs:=[_,_,_,_,_,_,_]) underlying163 rfl rfl rfl rfl rfl)<|.lazy rfl zC rfl fun b5=>?_;refine .lazy rfl zC rfl fun b6=>?_;refine OD.storeObj rfl zC zC rfl rfl rfl rfl zB zT ?_;refine OD.storeObj rfl zC zC rfl rfl rfl rfl zB zT ?_;refine ODx.nil<|S.seq<|S.objIs (b:=b5) (cs' :=[.string (str x.1),.int .i64 x.2.1,.int .i64 x.2.2.1,.slice xa3 x.2.2.2.1.length xc3,.bool x.2.2.2.2.1,.slice xa5 x.2.2.2.2.2.1.length xc5,.slice xa6 x.2.2.2.2.2.2.1.length xc6]) zB rfl ?_;refine S.objIs (b:=b6) (cs' :=[.string (str y.1),.int .i64 y.2.1,.int .i64 y.2.2.1,.slice ya3 y.2.2.2.1.length yc3,.bool y.2.2.2.2.1,.slice ya5 y.2.2.2.2.2.1.length yc5,.slice ya6 y.2.2.2.2.2.2.1.length yc6]) zB rfl ?_;refine S.frzO zB fun g hs hm hb5=>?_;replace hg:=Fr.sub_trans hg hs;replace hR:=melted hR hm
 try replace h:=h.mono hs
 try replace h' :=h'.mono hs
 try replace k3:=k3.mono hs
 try replace hb3:=hb3.mono hs
 try replace hb2:=hb2.mono hs
 clear hs hm;refine S.frzO zB fun g hs hm hb6=>?_;replace hg:=Fr.sub_trans hg hs;replace hR:=melted hR hm
 try replace h:=h.mono hs
 try replace h' :=h'.mono hs
 try replace k3:=k3.mono hs
 try replace hb3:=hb3.mono hs
 try replace hb2:=hb2.mono hs
 try replace hb5:=hb5.mono hs
 clear hs hm
 by_cases e1:x.1=y.1
 ·cases e2:shaped x with
  |false =>
   refine S.regionD (L:=.range 21) F.mixed zC ?_;refine zz 4 ?_;refine .quiet (.p rfl) rfl (fun _=>.eqlS rfl rfl)<|OD.sT 15 rfl (by simp [e1]) ?_;refine OD.q 1 rfl<|.quiet (.g rfl rfl) rfl (fun _=>.loadAgg isAgg163 zC rfl hb6) ?_;refine OD.v0 (.g rfl rfl) zC rfl zC rfl rfl (wshaped_c h) ?_;refine OD.sF 18 rfl (by exact e2) ?_;refine zz 14 ?_;exact S.rt results48 rfl hR ⟨by simp [over,e2],rfl⟩
  |true =>
   cases e3:shaped y with
   |false =>
    refine S.regionD (L:=.range 21) F.mixed zC ?_;refine zz 4 ?_;refine .quiet (.p rfl) rfl (fun _=>.eqlS rfl rfl)<|OD.sT 15 rfl (by simp [e1]) ?_;refine OD.q 1 rfl<|.quiet (.g rfl rfl) rfl (fun _=>.loadAgg isAgg163 zC rfl hb6) ?_;refine OD.v0 (.g rfl rfl) zC rfl zC rfl rfl (wshaped_c h) ?_;refine OD.sT 18 rfl (by exact e2) ?_;refine OD.q 2 rfl<|.quiet (.g rfl rfl) rfl (fun _=>.loadAgg isAgg163 zC rfl hb5) ?_;refine OD.v0 (.g rfl rfl) zC rfl zC rfl rfl (wshaped_c h') ?_;refine OD.sF 22 rfl (by exact e3) ?_;refine zz 10 ?_;exact S.rt results48 rfl hR ⟨by simp [over,e3],rfl⟩
   |true =>
    refine S.regionD (L:=.range 21) F.mixed zC ?_;refine zz 4 ?_;refine .quiet (.p rfl) rfl (fun _=>.eqlS rfl rfl)<|OD.sT 15 rfl (by simp [e1]) ?_;refine OD.q 1 rfl<|.quiet (.g rfl rfl) rfl (fun _=>.loadAgg isAgg163 zC rfl hb6) ?_;refine OD.v0 (.g rfl rfl) zC rfl zC rfl rfl (wshaped_c h) ?_;refine OD.sT 18 rfl (by exact e2) ?_;refine OD.q 2 rfl<|.quiet (.g rfl rfl) rfl (fun _=>.loadAgg isAgg163 zC rfl hb5) ?_;refine OD.v0 (.g rfl rfl) zC rfl zC rfl rfl (wshaped_c h') ?_;refine OD.sT 22 rfl (by exact e3) ?_;refine zz 4 ?_;refine .quiet (.g rfl rfl) rfl (fun _=>.loadAgg isAgg163 zC rfl hb5) ?_;refine OD.v0 (.g rfl rfl) zC rfl zC rfl rfl (wdot_c h') ?_;refine OD.v0 (.g rfl rfl) zC rfl zC rfl rfl (vHas_c (rDot y) rfl k3) ?_;refine zz 3 ?_;exact S.rt results48 rfl hR ⟨by simp [over,e1,e2,e3],rfl⟩
 ·
  refine S.regionD (L:=.range 21) F.mixed zC ?_;refine zz 4 ?_;refine .quiet (.p rfl) rfl (fun _=>.eqlS rfl rfl)<|OD.sF 15 rfl (by simp [e1]) ?_;refine zz 17 ?_;exact S.rt results48 rfl hR ⟨by simp [over,e1],rfl⟩
end Go.Proofs.YtodhbhanmdfdeaaGreat
