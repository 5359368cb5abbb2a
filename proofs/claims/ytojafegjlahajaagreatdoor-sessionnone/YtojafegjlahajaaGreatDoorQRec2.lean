/- Texts of this proof. -/
import Derived.Test.YtojafegjlahajaaGreatDoorQWire1
open Go Go.Sp Go.Proofs.Tryz
set_option maxRecDepth 100000
set_option maxHeartbeats 1000000
attribute [local irreducible] obj Own OwnP
namespace Go.Proofs.YtojafegjlahajaaGreatDoor
theorem isNaN_c {r:Fr} (x:Int):Con prog 330 #[.int .i64 x] r [] (Ret fun v η=>v=.bool false∧η=[]):=by
 refine Con.o func330 fun g hg R hR=>?_;refine zz 9 ?_;refine O.sF 5 rfl zH<|zz 2 ?_;exact S.rt results330 rfl hR ⟨rfl,rfl⟩
theorem compare_c {r:Fr} (x y:Int):Con prog 294 #[.int .i64 x,.int .i64 y] r [] (Ret fun v η=>v=.int .i64 (cmpZ x y)∧η=[]):=by
 refine Con.o func294 fun g hg R hR=>?_;refine zz 7 ?_;refine O.v0 (.p rfl) rfl zD rfl rfl (isNaN_c _)<|zz 5 ?_;refine O.v0 (.p rfl) rfl zD rfl rfl (isNaN_c _)<|zz 23 ?_;refine S.cd rfl (fun h16=>?_) fun h16=>?_
 ·refine zz 4 ?_
  exact S.rt results294 rfl hR ⟨by simp [cmpZ,h16],rfl⟩
 ·refine zz 8 ?_
  refine S.cd rfl (fun h19=>?_) fun h19=>?_
  ·refine zz 4 ?_
   exact S.rt results294 rfl hR ⟨by simp only [cmpZ];rw [if_neg zB,if_pos zB],rfl⟩
  ·refine zz 5 ?_
   exact S.rt results294 rfl hR ⟨by simp only [cmpZ];rw [if_neg zB,if_neg zB],rfl⟩
def firstNZ:List Int→Int
 |[]=>0
 |x::l=>if x≠0 then x else firstNZ l
theorem firstNZ_drop {l:List Int} {i:Nat} (h:i<l.length):firstNZ (l.drop i)=if l[i]≠0 then l[i] else firstNZ (l.drop (i+1)):=by
 rw [List.drop_eq_getElem_cons h];rfl
theorem cmpOr_c {r:Fr} {va:Value} {l:List Int} (ha:Arr Rp.i64 r va l):Con prog 293 #[va] r [] (Ret fun v η=>v=.int .i64 (firstNZ l)∧η=[]):=by
 refine Con.o func293 fun g hg R hR=>?_;have ha:=ha.mono hg;have hbd:=ha.bound;obtain ⟨a1,c1,rfl⟩:=ha.shape;refine zz 16 ?_;refine S.loopK (ι:=Nat) (fun i=>i≤l.length∧firstNZ (l.drop i)=firstNZ l) (fun i=>[(8,.int .i64 (i:Int))]) [(3,_),(6,_),(7,_)] (fun i=>[]) (fun i=>l.length - i) (0) zH zq zq rfl fun i hx ih=>?_;have hm1:=meltRefl (g:=g);obtain ⟨hx1,hx2⟩:=hx;refine zz 5 ?_;refine S.cd rfl (fun h9=>?_) fun h9=>?_
 ·have hi:i<l.length:=by omega
  rw [firstNZ_drop hi] at hx2;refine zz 5 ?_;refine O.ia (.p rfl) underlying104 size3 rfl rfl rfl zA (h:=fun p10 cs10 hp10 hr10=>?_);obtain ⟨rfl,hz10⟩:=hr10;refine zz 9 ?_;refine S.cd rfl (fun h14=>?_) fun h14=>?_
  ·rw [if_pos h14] at hx2
   clear ih;refine zz 5 ?_;exact S.rt results293 rfl hR ⟨by rw [hx2],rfl⟩
  ·rw [if_neg h14] at hx2
   refine zz 6 ?_;exact S.wk (ih (i+1) (by exact ⟨by omega,hx2⟩) zB)
 ·clear ih
  have hi:i=l.length:=by omega
  subst hi;rw [List.drop_length] at hx2;refine zz 6 ?_;exact S.rt results293 rfl hR ⟨by rw [← hx2];rfl,rfl⟩
theorem cmpOr_d {r:Fr} {e:TypeId} {va:Value} {l:List Int}:Con prog 293 #[va] r [OwnP Rp.i64 e va l] (Ret fun v η=>v=.int .i64 (firstNZ l)∧η=[]) :=
 Con.lentD (η:=[]) (bs:=[_]) fun _ hm hd=>cmpOr_c (hm.arr.right hd)
theorem vright_c {r:Fr} {a b:Int} (d:DotT) (h:d=(a,b,())):Con prog 356 #[.agg #[.int .i64 a,.int .i64 b]] r [] (Ret fun v η=>v=.bool (dotOk d)∧η=[]):=by
 subst h;refine Con.o func356 fun g hg R hR=>?_;refine S.seq<|S.region rfl<|O.opE (.p rfl) (.box (cs:=[_,_]) rfl rfl) ?_;rintro _ _ ⟨b1,rfl,rfl⟩;refine zz 8 ?_
 refine O.cs 6 rfl (fun h6=>?_) fun h6=>?_
 ·refine zz 5 ?_
  refine O.cs 11 rfl (fun h11=>?_) fun h11=>?_
  ·refine zz 5 ?_
   refine O.cs 16 rfl (fun h16=>?_) fun h16=>?_
   ·refine zz 6 ?_
    exact S.rt results356 rfl hR ⟨congrArg _ (decide_eq_decide.2 (by simp only [true_and,and_true];omega)),rfl⟩
   ·refine zz 6 ?_
    exact S.rt results356 rfl hR ⟨congrArg _ (zdf (by simp only [];omega)).symm,rfl⟩
  ·refine zz 11 ?_
   exact S.rt results356 rfl hR ⟨congrArg _ (zdf (by simp only [];omega)).symm,rfl⟩
 ·refine zz 16 ?_
  exact S.rt results356 rfl hR ⟨congrArg _ (zdf (by simp only [];omega)).symm,rfl⟩
theorem dright_c {r:Fr} {va:Value} {v:List DotT} (ha:Arr DotRp r va v):Con prog 382 #[va] r [] (Ret fun u η=>u=.bool (vecOk v)∧η=[]):=by
 refine Con.o func382 fun g hg R hR=>?_;have ha:=ha.mono hg;have hbd:=ha.bound;obtain ⟨a1,c1,rfl⟩:=ha.shape;refine zz 12 ?_;refine S.loopK (ι:=Nat) (fun k=>k≤v.length∧vecOk (v.take k)=true) (fun k=>[(7,.int .i64 (k:Int))]) [(0,_),(5,_),(6,_)] (fun k=>[]) (fun k=>v.length - k) (0) (by exact ⟨by simp,rfl⟩) zq zq rfl fun k hx ih=>?_;have hm1:=meltRefl (g:=g);obtain ⟨hx1,hx2⟩:=hx;refine zz 5 ?_;refine S.cd rfl (fun h8=>?_) fun h8=>?_
 ·have hk:k<v.length:=by omega
  have hst:=vecOk_step hk hx2
  by_cases hd:dotOk v[k]=true
  ·by_cases h0:k=0
   ·
    refine zz 6 ?_;refine O.ia (.p rfl) underlying428 size191 rfl rfl rfl zA (h:=fun p10 cs10 hp10 hr10=>?_);obtain ⟨rfl,hi10,hj10⟩:=DotRp.open hr10;refine O.op (.p rfl) (.loadAgg isAgg191 zD rfl hp10) ?_;refine O.opE (.p rfl) (.alloc (cs:=[.int .i64 0,.int .i64 0]) zeroValue191 rfl) ?_;rintro _ _ ⟨b4,rfl,rfl⟩;refine zz 2 ?_;refine O.nil<|S.seq<|S.frzO zC fun g hs hm h4=>?_;replace hg:=zfs hg hs;replace hR:=melted hR hm
    try replace ha:=ha.mono hs
    try replace hp10:=hp10.mono hs
    try replace hr10:=hr10.mono hs
    replace hm1:=meltTrans hm1 hm;clear hs hm;refine S.regionD (L:=.range 18) F.mixed zD ?_;refine .quiet (.p rfl) rfl (fun _=>.loadAgg isAgg191 zD rfl h4) ?_;refine OD.v0 (.p rfl) zD rfl zD rfl rfl (vright_c v[k] rfl) ?_;refine OD.sT 13 rfl (by exact hd) ?_;refine zz 4 ?_;refine OD.sF 17 rfl zK ?_;refine zz 20 ?_;exact S.melt hm1 (S.wk (ih (k+1) (by exact ⟨by omega,hst.2 ⟨hd,fun h=>absurd h zB⟩⟩) zB))
   ·have hk1:k - 1<v.length:=by omega
    refine zz 6 ?_;refine O.ia (.p rfl) underlying428 size191 rfl rfl rfl zA (h:=fun p10 cs10 hp10 hr10=>?_);obtain ⟨rfl,hi10,hj10⟩:=DotRp.open hr10;refine O.op (.p rfl) (.loadAgg isAgg191 zD rfl hp10) ?_;refine O.opE (.p rfl) (.alloc (cs:=[.int .i64 0,.int .i64 0]) zeroValue191 rfl) ?_;rintro _ _ ⟨b4,rfl,rfl⟩;refine zz 2 ?_;refine O.nil<|S.seq<|S.frzO zC fun g hs hm h4=>?_;replace hg:=zfs hg hs;replace hR:=melted hR hm
    try replace ha:=ha.mono hs
    try replace hp10:=hp10.mono hs
    try replace hr10:=hr10.mono hs
    replace hm1:=meltTrans hm1 hm;clear hs hm;refine S.regionD (L:=.range 18) F.mixed zD ?_;refine .quiet (.p rfl) rfl (fun _=>.loadAgg isAgg191 zD rfl h4) ?_;refine OD.v0 (.p rfl) zD rfl zD rfl rfl (vright_c v[k] rfl) ?_;refine OD.sT 13 rfl (by exact hd) ?_;refine zz 4 ?_;refine OD.sT 17 rfl zK ?_;refine zz 4 ?_;refine OD.ia (.g rfl rfl) underlying428 size191 rfl rfl (show _=(((k - 1):Nat):Int) by omega) zA (h:=fun p22 cs22 hp22 hr22=>?_);obtain ⟨rfl,hi22,hj22⟩:=DotRp.open hr22;refine zz 8 ?_;refine S.cd rfl (fun h29=>?_) fun h29=>?_
    ·refine zz 4 ?_
     refine S.ret results382 rfl fun w hw=>Holds.end_ hR hw ?_;refine ⟨_,⟨?_,rfl⟩,zN⟩
     congr 1;symm
     refine vecOk_none (i:=k+1) ?_;rw [Bool.eq_false_iff]
     intro e
     have:=(hst.1 e).2 zB
     omega
    ·refine zz 6 ?_
     exact S.melt hm1 (S.wk (ih (k+1) (by exact ⟨by omega,hst.2 ⟨hd,fun _=>by omega⟩⟩) zB))
  ·have hd' :dotOk v[k]=false:=by simpa using hd
   refine zz 6 ?_;refine O.ia (.p rfl) underlying428 size191 rfl rfl rfl zA (h:=fun p10 cs10 hp10 hr10=>?_);obtain ⟨rfl,hi10,hj10⟩:=DotRp.open hr10;refine O.op (.p rfl) (.loadAgg isAgg191 zD rfl hp10) ?_;refine O.opE (.p rfl) (.alloc (cs:=[.int .i64 0,.int .i64 0]) zeroValue191 rfl) ?_;rintro _ _ ⟨b4,rfl,rfl⟩;refine zz 2 ?_;refine O.nil<|S.seq<|S.frzO zC fun g hs hm h4=>?_;replace hg:=zfs hg hs;replace hR:=melted hR hm
   try replace ha:=ha.mono hs
   try replace hp10:=hp10.mono hs
   try replace hr10:=hr10.mono hs
   replace hm1:=meltTrans hm1 hm;clear hs hm;refine S.regionD (L:=.range 18) F.mixed zD ?_;refine .quiet (.p rfl) rfl (fun _=>.loadAgg isAgg191 zD rfl h4) ?_;refine OD.v0 (.p rfl) zD rfl zD rfl rfl (vright_c v[k] rfl) ?_;refine OD.sF 13 rfl (by exact hd') ?_;refine zz 22 ?_;clear ih;refine S.ret results382 rfl fun w hw=>Holds.end_ hR hw ?_;refine ⟨_,⟨?_,rfl⟩,zN⟩
   congr 1;symm
   refine vecOk_none (i:=k+1) ?_;rw [Bool.eq_false_iff]
   intro e
   exact hd (hst.1 e).1
 ·clear ih
  have hk:k=v.length:=by omega
  subst hk;rw [List.take_length] at hx2;refine zz 5 ?_;exact S.rt results382 rfl hR ⟨by rw [hx2],rfl⟩
theorem at1_c {r:Fr} {a b c:Int}:Con prog 395 #[.agg #[.int .i64 a,.int .i64 b],.int .i64 c] r [] (Ret fun u η=>u=.int .i64 (cmpZ a c)∧η=[]):=by
 refine Con.o func395 fun g hg R hR=>?_;refine S.seq<|S.region rfl<|O.opE (.p rfl) (.box (cs:=[_,_]) rfl rfl) ?_;rintro _ _ ⟨b2,rfl,rfl⟩;refine zz 6 ?_;refine O.q 1 rfl<|O.v0 (.p rfl) rfl zD rfl rfl (compare_c _ _)<|zz 2 ?_;exact S.rt results395 rfl hR ⟨rfl,rfl⟩
theorem half_eq {s:Nat} (h:s≤18446744073709551614 / 2):IntKind.i64.wrap ((IntKind.u64.wrap (s:Int)).fdiv (2 ^ min (1:Int).toNat IntKind.u64.bits))=((s / 2:Nat):Int):=by
 have e:IntKind.u64.wrap (s:Int)=(s:Int):=by rw [wrap_u64_eq];unfold u64;omega
 rw [e,IntKind.wrap_i64];have:(2:Int) ^ min (1:Int).toNat IntKind.u64.bits=2:=by decide
 rw [this];have h2:(s:Int).fdiv 2=((s / 2:Nat):Int):=by rw [Int.fdiv_eq_ediv_of_nonneg _ zB];omega
 rw [h2];omega
theorem bsearch_c {r:Fr} {va:Value} {v:List DotT} (c:Int) (ha:Arr DotRp r va v) (hv:Rises v) (hl:v.length≤1000000000000):Con prog 394 #[va,.int .i64 c,.func (.func 395) #[] #[]] r []
  (Ret fun u η=>∃ (k:Nat) (b:Bool),u=.tuple #[.int .i64 (k:Int),.bool b]∧k≤v.length∧(b=true→∃ h:k<v.length,v[k].1=c)∧(b=false→∀ i (hi:i<v.length),v[i].1≠c)∧η=[]):=by
 refine Con.o func394 fun g hg R hR=>?_;have ha:=ha.mono hg;obtain ⟨a1,c1,rfl⟩:=ha.shape;have hlt:∀ i j (hi:i<v.length) (hj:j<v.length),i<j→v[i].1<v[j].1:=fun i j hi hj h=>List.pairwise_iff_getElem.1 hv i j hi hj h;refine zz 19 ?_;refine S.loopK2 (ι:=Nat) (κ:=Nat) (fun i j=>i≤j∧j≤v.length∧(∀ q (hq:q<v.length),q<i→v[q].1<c)∧(∀ q (hq:q<v.length),j≤q→c≤v[q].1)) (fun i j=>[(9,.int .i64 (i:Int)),(10,.int .i64 (j:Int))]) [(0,_),(1,_),(2,_),(8,_)] (fun i j=>[]) (fun i j=>j - i) (0) (v.length) (by exact ⟨by omega,by omega,fun q _ h=>absurd h zB,fun q hq h=>absurd hq zB⟩) zq zq rfl fun i j hx ih=>?_;have hm1:=meltRefl (g:=g);obtain ⟨hij,hjl,hlo,hhi⟩:=hx;refine zz 7 ?_;refine S.cd rfl (fun h17=>?_) fun h17=>?_
 ·have hm:(i+j) / 2<v.length:=by omega
  have hfin:cmpZ v[(i+j) / 2].1 c<0↔v[(i+j) / 2].1<c:=by unfold cmpZ;split<;>(try split)<;>omega
  refine zz 7 ?_;refine O.op (.p rfl) (.cvt underlying3 underlying197 rfl)<|O.op (.p rfl) (.shr rfl rfl zB)<|O.op (.p rfl) (.cvt underlying197 underlying3 rfl)<|O.slot 23 (v' :=.int .i64 (((i+j) / 2:Nat):Int)) rfl (by exact congrArg _ (half_eq (s:=i+j) zB))<|zz 7 ?_;refine O.ia (.p rfl) underlying428 size191 rfl rfl (show _=((((i+j) / 2):Nat):Int) by omega) zA (h:=fun p27 cs27 hp27 hr27=>?_);obtain ⟨rfl,hi27,hj27⟩:=DotRp.open hr27;refine O.op (.p rfl) (.loadAgg isAgg191 zD rfl hp27) ?_;refine O.q 1 rfl<|O.v0 (.p rfl) rfl zD rfl rfl (at1_c)<|zz 2 ?_;refine S.cd rfl (fun h31=>?_) fun h31=>?_
  ·have hc:=hfin.1 h31
   refine zz 6 ?_;exact S.wk (ih ((i+j) / 2+1) (j) (by (refine ⟨by omega,by omega,fun q hq h=>?_,hhi⟩;by_cases e:q=(i+j) / 2;(subst e;exact hc);(have:=hlt q ((i+j) / 2) hq hm zB;omega))) zB)
  ·have hc:c≤v[(i+j) / 2].1:=by have:=mt hfin.2 h31;omega
   refine zz 5 ?_;exact S.wk (ih (i) ((i+j) / 2) (by (refine ⟨by omega,by omega,hlo,fun q hq h=>?_⟩;by_cases e:q=(i+j) / 2;(subst e;exact hc);(have:=hlt ((i+j) / 2) q hm hq zB;omega))) zB)
 ·clear ih
  have e:i=j:=by omega
  subst e
  by_cases hi:i<v.length
  ·
   have hc:=hhi i hi (Nat.le_refl _);have hfin:cmpZ v[i].1 c=0↔v[i].1=c:=by unfold cmpZ;split<;>(try split)<;>omega
   refine zz 7 ?_;refine O.sT 38 rfl zK ?_;refine O.q 4 rfl<|O.ia (.g rfl rfl) underlying428 size191 rfl rfl rfl zA (h:=fun p43 cs43 hp43 hr43=>?_);obtain ⟨rfl,hi43,hj43⟩:=DotRp.open hr43;refine O.op (.g rfl rfl) (.loadAgg isAgg191 zD rfl hp43) ?_;refine O.q 1 rfl<|O.v0 (.g rfl rfl) rfl zD rfl rfl (at1_c)<|zz 5 ?_;refine S.ret2 results394 rfl rfl fun w hw=>Holds.end_ hR hw ?_;refine ⟨_,⟨i,_,rfl,hjl,fun hb=>⟨hi,hfin.1 (by simpa using hb)⟩,fun hb q hq e=>?_,rfl⟩,zN⟩;have hne:¬ v[i].1=c:=fun e2=>by simp [hfin.2 e2] at hb
   rcases Nat.lt_trichotomy q i with h|h|h
   ·have:=hlo q hq h;omega
   ·subst h;exact hne e
   ·have:=hlt i q hi hq h;omega
  ·
   refine zz 7 ?_;refine O.sF 38 rfl zK ?_;refine O.q 12 rfl<|O.nil<|S.ret2 results394 rfl rfl fun w hw=>Holds.end_ hR hw ?_;exact pk ⟨i,false,rfl,hjl,fun h=>(by cases h),fun _ q hq e=>by have:=hlo q hq zB;omega,rfl⟩
theorem at_c {r:Fr} {va:Value} {v:List DotT} (c:Int) (ha:Arr DotRp r va v) (hv:Rises v) (hl:v.length≤1000000000000):Con prog 383 #[va,.int .i64 c] r []
  (Ret fun u η=>∃ (k:Nat) (b:Bool),u=.tuple #[.int .i64 (k:Int),.bool b]∧k≤v.length∧(b=true→∃ h:k<v.length,v[k].1=c)∧(b=false→∀ i (hi:i<v.length),v[i].1≠c)∧η=[]):=by
 refine Con.o func383 fun g hg R hR=>?_;have ha:=ha.mono hg;refine zz 9 ?_;refine O.call0 (.p rfl) rfl zD rfl rfl (bsearch_c _ zA zM zG) ?_;rintro v8 _ ⟨k8,b8,rfl,hk8,ht8,hf8,rfl⟩;refine O.q 4 rfl<|O.nil<|S.ret2 results383 rfl rfl fun w hw=>Holds.end_ hR hw ?_;exact pk ⟨k8,b8,rfl,hk8,ht8,hf8,rfl⟩
theorem dhas_c {r:Fr} {va:Value} {v:List DotT} {a b:Int} (d:DotT) (h:d=(a,b,())) (ha:Arr DotRp r va v) (hv:Rises v) (hl:v.length≤1000000000000):Con prog 357 #[va,.agg #[.int .i64 a,.int .i64 b]] r []
  (Ret fun u η=>u=.bool (hasM v d)∧η=[]):=by
 subst h;refine Con.o func357 fun g hg R hR=>?_;have ha:=ha.mono hg;obtain ⟨a1,c1,rfl⟩:=ha.shape;refine S.seq<|S.region rfl<|O.opE (.p rfl) (.box (cs:=[_,_]) rfl rfl) ?_;rintro _ _ ⟨b3,rfl,rfl⟩;refine zz 7 ?_;refine O.call0 (.p rfl) rfl zD rfl rfl (at_c _ zA zM zG) ?_;rintro v11 _ ⟨k11,b11,rfl,hk11,ht11,hf11,rfl⟩;refine zz 7 ?_
 cases b11 with
 |true =>
  obtain ⟨hk,hkc⟩:=ht11 rfl;refine S.frzO zC fun g hs hm h3=>?_;replace hg:=zfs hg hs;replace hR:=melted hR hm
  try replace ha:=ha.mono hs
  clear hs hm;refine S.regionD (L:=.range 12) F.mixed zD ?_;refine OD.q 1 rfl<|OD.sT 14 rfl (by first|decide|simp) ?_;refine OD.q 3 rfl<|OD.ia (.g rfl rfl) underlying428 size191 rfl rfl (show _=(((k11):Nat):Int) by omega) zA (h:=fun p18 cs18 hp18 hr18=>?_);obtain ⟨rfl,hi18,hj18⟩:=DotRp.open hr18;refine zz 8 ?_;exact S.rt results357 rfl hR ⟨by rw [hasM_at hv hk hkc],rfl⟩
 |false =>
  refine S.frzO zC fun g hs hm h3=>?_;replace hg:=zfs hg hs;replace hR:=melted hR hm
  try replace ha:=ha.mono hs
  clear hs hm;refine S.regionD (L:=.range 12) F.mixed zD ?_;refine OD.q 1 rfl<|OD.sF 14 rfl (by first|decide|simp) ?_;refine zz 12 ?_;exact S.rt results357 rfl hR ⟨by rw [hasM_no (hf11 rfl)],rfl⟩
theorem vRight_c {r:Fr} {va:Value} {v:List DotT} (ha:Arr DotRp r va v):Con prog 355 #[va] r [] (Ret fun u η=>u=.bool (vecOk v)∧η=[]):=by
 refine Con.o func355 fun g hg R hR=>?_;have ha:=ha.mono hg;refine zz 7 ?_;refine O.v0 (.p rfl) rfl zD rfl rfl (dright_c zA)<|zz 2 ?_;exact S.rt results355 rfl hR ⟨rfl,rfl⟩
theorem vHas_c {r:Fr} {va:Value} {v:List DotT} {a b:Int} (d:DotT) (h:d=(a,b,())) (ha:Arr DotRp r va v):Con prog 333 #[va,.agg #[.int .i64 a,.int .i64 b]] r [] (Ret fun u η=>u=.bool (hasR v d)∧η=[]):=by
 subst h;refine Con.o func333 fun g hg R hR=>?_;have ha:=ha.mono hg
 cases hv:vecOk v with
 |false =>
  refine S.seq<|S.region rfl<|O.opE (.p rfl) (.box (cs:=[_,_]) rfl rfl) ?_;rintro _ _ ⟨b3,rfl,rfl⟩;refine zz 5 ?_;refine O.v0 (.p rfl) rfl zD rfl rfl (vRight_c zA) ?_;refine O.sF 6 rfl (by exact hv)<|zz 11 ?_;exact S.rt results333 rfl hR ⟨by simp [hasR,hv],rfl⟩
 |true =>
  have hr:=(vecOk_iff.1 hv).2;have hl:=rises_len hv
  cases hd:dotOk (a,b,()) with
  |false =>
   refine S.seq<|S.region rfl<|O.opE (.p rfl) (.box (cs:=[_,_]) rfl rfl) ?_;rintro _ _ ⟨b3,rfl,rfl⟩;refine zz 5 ?_;refine O.v0 (.p rfl) rfl zD rfl rfl (vRight_c zA) ?_;refine O.sT 6 rfl (by exact hv)<|zz 2 ?_;refine O.v0 (.g rfl rfl) rfl zD rfl rfl (vright_c _ rfl) ?_;refine O.sF 9 rfl (by exact hd)<|zz 8 ?_;exact S.rt results333 rfl hR ⟨by simp [hasR,hd],rfl⟩
  |true =>
   refine S.seq<|S.region rfl<|O.opE (.p rfl) (.box (cs:=[_,_]) rfl rfl) ?_;rintro _ _ ⟨b3,rfl,rfl⟩;refine zz 5 ?_;refine O.v0 (.p rfl) rfl zD rfl rfl (vRight_c zA) ?_;refine O.sT 6 rfl (by exact hv)<|zz 2 ?_;refine O.v0 (.g rfl rfl) rfl zD rfl rfl (vright_c _ rfl) ?_;refine O.sT 9 rfl (by exact hd)<|zz 4 ?_;refine O.v0 (.g rfl rfl) rfl zD rfl rfl (dhas_c _ rfl zA zM zG)<|zz 3 ?_;exact S.rt results333 rfl hR ⟨by simp [hasR,hv,hd],rfl⟩
theorem wdot_c {r:Fr} {cs:List Value} {x:RecT} (h:RecRp.rel r cs x):Con prog 334 #[.agg cs.toArray] r [] (Ret fun v η=>v=.agg #[.int .i64 x.2.1,.int .i64 x.2.2.1]∧η=[]):=by
 obtain ⟨v3,v5,v6,rfl,k0,k1,k2,k3,k5,k6⟩:=RecRp.open h;refine Con.o func334 fun g hg R hR=>?_;refine S.seq<|S.region rfl<|O.opE (.p rfl) (.box (cs:=[_,_,_,_,_,_,_]) rfl rfl) ?_;rintro _ _ ⟨b1,rfl,rfl⟩;refine O.opE (.p rfl) (.alloc (cs:=[.int .i64 0,.int .i64 0]) zeroValue191 rfl) ?_;rintro _ _ ⟨b2,rfl,rfl⟩;refine zz 9 ?_;refine O.op (.p rfl) (.build (cs:=[_,_]) underlying191 rfl rfl rfl rfl rfl) ?_;refine zz 1 ?_;refine O.nil<|S.retCellAgg results334 isAgg191 zD rfl zC fun w hw=>Holds.end_ hR hw ?_;exact pk ⟨rfl,rfl⟩
theorem wshaped_c {r:Fr} {cs:List Value} {x:RecT} (h:RecRp.rel r cs x):Con prog 332 #[.agg cs.toArray] r [] (Ret fun v η=>v=.bool (shaped x)∧η=[]):=by
 obtain ⟨v3,v5,v6,rfl,k0,k1,k2,k3,k5,k6⟩:=RecRp.open h;refine Con.o func332 fun g hg R hR=>?_;have h:=h.mono hg;have k3:=k3.mono hg;have k5:=k5.mono hg;have k6:=k6.mono hg;obtain ⟨a3,c3,rfl⟩:=k3.shape;obtain ⟨a5,c5,rfl⟩:=k5.shape;obtain ⟨a6,c6,rfl⟩:=k6.shape
 by_cases n1:x.1.length<1
 ·have e:shaped x=false:=by unfold shaped;rw [zdf (show ¬ 1≤x.1.length by omega)];rfl
  refine S.seq<|S.region rfl<|O.opE (.p rfl) (.box (cs:=[_,_,_,_,_,_,_]) rfl rfl) ?_;rintro _ _ ⟨b1,rfl,rfl⟩;refine zz 12 ?_;refine O.sT 8 rfl zK<|zz 9 ?_;exact S.rt results332 rfl hR ⟨by rw [e],rfl⟩
 have e1:1≤x.1.length:=by omega
 by_cases n2:64<x.1.length
 ·have e:shaped x=false:=by unfold shaped;rw [zdf (show ¬ x.1.length≤64 by omega)];simp
  refine S.seq<|S.region rfl<|O.opE (.p rfl) (.box (cs:=[_,_,_,_,_,_,_]) rfl rfl) ?_;rintro _ _ ⟨b1,rfl,rfl⟩;refine zz 12 ?_;refine O.sF 8 rfl zK<|zz 10 ?_;refine O.sT 13 rfl zK<|zz 9 ?_;exact S.rt results332 rfl hR ⟨by rw [e],rfl⟩
 have e2:x.1.length≤64:=by omega
 have hv1:vecOk [rDot x]=dotOk (rDot x):=by
  cases hd:dotOk (rDot x) with
  |true=>rw [vecOk_iff];exact ⟨fun d q=>by rw [List.mem_singleton.1 q];exact hd,List.pairwise_singleton ..⟩
  |false =>
   rw [Bool.eq_false_iff]
   intro q
   have:=(vecOk_iff.1 q).1 _ (List.mem_singleton.2 rfl);rw [hd] at this;cases this
 cases e3:dotOk (rDot x) with
 |false =>
  have e:shaped x=false:=by unfold shaped;rw [e3];simp
  refine S.seq<|S.region rfl<|O.opE (.p rfl) (.box (cs:=[_,_,_,_,_,_,_]) rfl rfl) ?_;rintro _ _ ⟨b1,rfl,rfl⟩;refine zz 12 ?_;refine O.sF 8 rfl zK<|zz 10 ?_;refine O.sF 13 rfl zK<|zz 6 ?_;refine O.v0 (.p rfl) rfl zD rfl rfl (wdot_c (by first|assumption|exact Rp.rel.mono zM hg)) ?_;refine O.opE (.p rfl) (.litP (T:=DotRp) (ys:=[rDot x]) underlying100 elem191 zE rfl rfl ⟨DotRp.mk k1 k2,trivial⟩ zE) ?_;rintro _ _ ⟨a16,c16,rfl,rfl⟩;refine O.frzA zC fun g hs hm ha16=>?_;replace hg:=zfs hg hs;replace hR:=melted hR hm
  try replace h:=h.mono hs
  try replace k3:=k3.mono hs
  try replace k5:=k5.mono hs
  try replace k6:=k6.mono hs
  clear hs hm;refine O.v0 (.p rfl) rfl zD rfl rfl (vRight_c zA) ?_;refine O.sF 17 rfl (by rw [hv1,e3]) ?_;refine zz 10 ?_;exact S.rt results332 rfl hR ⟨by rw [e],rfl⟩
 |true =>
  cases e4:vecOk x.2.2.2.1 with
  |false =>
   have e:shaped x=false:=by unfold shaped;rw [e4];simp
   refine S.seq<|S.region rfl<|O.opE (.p rfl) (.box (cs:=[_,_,_,_,_,_,_]) rfl rfl) ?_;rintro _ _ ⟨b1,rfl,rfl⟩;refine zz 12 ?_;refine O.sF 8 rfl zK<|zz 10 ?_;refine O.sF 13 rfl zK<|zz 6 ?_;refine O.v0 (.p rfl) rfl zD rfl rfl (wdot_c (by first|assumption|exact Rp.rel.mono zM hg)) ?_;refine O.opE (.p rfl) (.litP (T:=DotRp) (ys:=[rDot x]) underlying100 elem191 zE rfl rfl ⟨DotRp.mk k1 k2,trivial⟩ zE) ?_;rintro _ _ ⟨a16,c16,rfl,rfl⟩;refine O.frzA zC fun g hs hm ha16=>?_;replace hg:=zfs hg hs;replace hR:=melted hR hm
   try replace h:=h.mono hs
   try replace k3:=k3.mono hs
   try replace k5:=k5.mono hs
   try replace k6:=k6.mono hs
   clear hs hm;refine O.v0 (.p rfl) rfl zD rfl rfl (vRight_c zA) ?_;refine O.sT 17 rfl (by rw [hv1,e3]) ?_;refine zz 9 ?_;refine O.v0 (.p rfl) rfl zD rfl rfl (vRight_c zA) ?_;refine O.sF 22 rfl (by exact e4) ?_;refine zz 10 ?_;exact S.rt results332 rfl hR ⟨by rw [e],rfl⟩
  |true =>
   cases e5:hasR x.2.2.2.1 (rDot x) with
   |true =>
    have e:shaped x=false:=by unfold shaped;rw [e5];simp
    refine S.seq<|S.region rfl<|O.opE (.p rfl) (.box (cs:=[_,_,_,_,_,_,_]) rfl rfl) ?_;rintro _ _ ⟨b1,rfl,rfl⟩;refine zz 12 ?_;refine O.sF 8 rfl zK<|zz 10 ?_;refine O.sF 13 rfl zK<|zz 6 ?_;refine O.v0 (.p rfl) rfl zD rfl rfl (wdot_c (by first|assumption|exact Rp.rel.mono zM hg)) ?_;refine O.opE (.p rfl) (.litP (T:=DotRp) (ys:=[rDot x]) underlying100 elem191 zE rfl rfl ⟨DotRp.mk k1 k2,trivial⟩ zE) ?_;rintro _ _ ⟨a16,c16,rfl,rfl⟩;refine O.frzA zC fun g hs hm ha16=>?_;replace hg:=zfs hg hs;replace hR:=melted hR hm
    try replace h:=h.mono hs
    try replace k3:=k3.mono hs
    try replace k5:=k5.mono hs
    try replace k6:=k6.mono hs
    clear hs hm;refine O.v0 (.p rfl) rfl zD rfl rfl (vRight_c zA) ?_;refine O.sT 17 rfl (by rw [hv1,e3]) ?_;refine zz 9 ?_;refine O.v0 (.p rfl) rfl zD rfl rfl (vRight_c zA) ?_;refine O.sT 22 rfl (by exact e4) ?_;refine zz 4 ?_;refine S.frzO zC fun g hs hm hbx=>?_;replace hg:=zfs hg hs;replace hR:=melted hR hm
    try replace h:=h.mono hs
    try replace k3:=k3.mono hs
    try replace k5:=k5.mono hs
    try replace k6:=k6.mono hs
    try replace ha16:=ha16.mono hs
    clear hs hm;refine S.regionD (L:=.range 7) F.mixed zD ?_;refine zz 3 ?_;refine .quiet (.p rfl) rfl (fun _=>.loadAgg isAgg415 zD rfl hbx) ?_;refine OD.v0 (.p rfl) zD rfl zD rfl rfl (wdot_c (by first|assumption|exact Rp.rel.mono zM hg)) ?_;refine OD.v0 (.p rfl) zD rfl zD rfl rfl (vHas_c (rDot x) rfl zA) ?_;refine OD.sT 29 rfl (by exact e5) ?_;refine zz 7 ?_;exact S.rt results332 rfl hR ⟨by rw [e],rfl⟩
   |false =>
    have e:shaped x=(decide (x.2.2.2.2.2.1.length≤1024) && (!x.2.2.2.2.1 ||decide (x.2.2.2.2.2.1.length=0))):=by unfold shaped;rw [zdt e1,zdt e2,e3,e4,e5];simp
    rw [e] at hR;clear e;refine S.seq<|S.region rfl<|O.opE (.p rfl) (.box (cs:=[_,_,_,_,_,_,_]) rfl rfl) ?_;rintro _ _ ⟨b1,rfl,rfl⟩;refine zz 12 ?_;refine O.sF 8 rfl zK ?_;refine zz 10 ?_;refine O.sF 13 rfl zK ?_;refine zz 6 ?_;refine O.v0 (.p rfl) rfl zD rfl rfl (wdot_c (by first|assumption|exact Rp.rel.mono zM hg)) ?_;refine O.opE (.p rfl) (.litP (T:=DotRp) (ys:=[rDot x]) underlying100 elem191 zE rfl rfl ⟨DotRp.mk k1 k2,trivial⟩ zE) ?_;rintro _ _ ⟨a16,c16,rfl,rfl⟩;refine O.frzA zC fun g hs hm ha16=>?_;replace hg:=zfs hg hs;replace hR:=melted hR hm
    try replace h:=h.mono hs
    try replace k3:=k3.mono hs
    try replace k5:=k5.mono hs
    try replace k6:=k6.mono hs
    clear hs hm;refine O.v0 (.p rfl) rfl zD rfl rfl (vRight_c zA) ?_;refine O.sT 17 rfl (by rw [hv1,e3]) ?_;refine zz 9 ?_;refine O.v0 (.p rfl) rfl zD rfl rfl (vRight_c zA) ?_;refine O.sT 22 rfl (by exact e4) ?_;refine zz 4 ?_;refine S.frzO zC fun g hs hm hbx=>?_;replace hg:=zfs hg hs;replace hR:=melted hR hm
    try replace h:=h.mono hs
    try replace k3:=k3.mono hs
    try replace k5:=k5.mono hs
    try replace k6:=k6.mono hs
    try replace ha16:=ha16.mono hs
    clear hs hm;refine S.regionD (L:=.range 7) F.mixed zD ?_;refine zz 3 ?_;refine .quiet (.p rfl) rfl (fun _=>.loadAgg isAgg415 zD rfl hbx) ?_;refine OD.v0 (.p rfl) zD rfl zD rfl rfl (wdot_c (by first|assumption|exact Rp.rel.mono zM hg)) ?_;refine OD.v0 (.p rfl) zD rfl zD rfl rfl (vHas_c (rDot x) rfl zA) ?_;refine OD.sF 29 rfl (by exact e5) ?_;refine zz 3 ?_;refine S.skip (S.inBlock (S.seq ?_))
    by_cases n6:1024<x.2.2.2.2.2.1.length
    ·
     refine zz 6 ?_;refine O.sF 34 rfl zK<|zz 15 ?_;exact S.rt results332 rfl hR ⟨by rw [zdf (show ¬ x.2.2.2.2.2.1.length≤1024 by omega)];rfl,rfl⟩
    have e6:x.2.2.2.2.2.1.length≤1024:=by omega
    cases e7:x.2.2.2.2.1 with
    |false =>
     refine zz 6 ?_;refine O.sT 34 rfl zK<|zz 4 ?_;refine O.slot 38 (v' :=.bool false) rfl (by rw [e7]) ?_;refine O.op (.g rfl rfl) ((by first|exact .notD rfl|exact .not rfl)) ?_;refine O.sT 39 rfl zF<|zz 10 ?_;exact S.rt results332 rfl hR ⟨by rw [zdt e6,e7];rfl,rfl⟩
    |true =>
     refine zz 6 ?_;refine O.sT 34 rfl zK<|zz 4 ?_;refine O.slot 38 (v' :=.bool true) rfl (by rw [e7]) ?_;refine O.op (.g rfl rfl) ((by first|exact .notD rfl|exact .not rfl)) ?_;refine O.sF 39 rfl zF<|zz 10 ?_;exact S.rt results332 rfl hR ⟨by rw [zdt e6,e7];simp,rfl⟩
end Go.Proofs.YtojafegjlahajaaGreatDoor
