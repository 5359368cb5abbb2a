/- Texts of this proof. -/
import Derived.Test.YtodhbhanmdfdeaaGreatQWire1
import Derived.Test.YtodhbhanmdfdeaaGreatQSpSib
open Go Go.Sp Go.Proofs.Tryz
set_option maxRecDepth 100000
set_option maxHeartbeats 1000000
attribute [local irreducible] obj Own OwnP
namespace Go.Proofs.YtodhbhanmdfdeaaGreat
theorem isNaN_c {r:Fr} (x:Int):Con prog 322 #[.int .i64 x] r [] (Ret fun v η=>v=.bool false∧η=[]):=by
 refine Con.of (n:=6) _ rfl func322 rfl rfl rfl fun g hg R hR=>?_;refine S.seq<|S.region rfl<|O.q 1 rfl<|O.nil<|S.seq<|S.region rfl<|O.q 2 rfl<|O.op (.p rfl) (.neq rfl rfl)<|O.sF 5 rfl zJ ?_;refine O.q 1 rfl<|O.nil ?_;exact S.rt results322 rfl hR ⟨rfl,rfl⟩
theorem compare_c {r:Fr} (x y:Int):Con prog 281 #[.int .i64 x,.int .i64 y] r [] (Ret fun v η=>v=.int .i64 (cmpZ x y)∧η=[]):=by
 refine Con.of (n:=20) _ rfl func281 rfl rfl rfl fun g hg R hR=>?_;refine S.seq<|S.region rfl<|O.q 1 rfl<|O.nil<|S.seq<|S.region rfl<|O.q 1 rfl<|O.call0 (.p rfl) rfl zB rfl rfl (isNaN_c _) ?_;rintro _ _ ⟨rfl,rfl⟩
 try simp only [zx1,zx2,zx3]
 refine O.q 1 rfl<|O.nil<|S.seq<|S.region rfl<|O.q 1 rfl<|O.call0 (.p rfl) rfl zB rfl rfl (isNaN_c _) ?_;rintro _ _ ⟨rfl,rfl⟩
 try simp only [zx1,zx2,zx3]
 refine O.q 1 rfl<|O.nil<|S.seq<|S.seq<|S.region rfl<|O.q 1 rfl<|O.nil<|S.condF rfl<|S.skip<|S.seq<|S.seq<|S.region rfl<|O.q 1 rfl<|O.nil<|S.condF rfl<|S.skip<|S.seq<|S.seq<|S.region rfl<|O.q 2 rfl<|O.op (.p rfl) (.lss rfl rfl)<|O.nil ?_
 first|refine S.condD rfl (fun h16=>?_) (fun h16=>?_)|refine S.condB rfl (fun h16=>?_) (fun h16=>?_)
 ·refine S.seq<|S.region rfl<|O.q 1 rfl<|O.nil ?_
  exact S.rt results281 rfl hR ⟨by simp [cmpZ,h16],rfl⟩
 ·refine S.skip<|S.seq<|S.seq<|S.region rfl<|O.q 2 rfl<|O.op (.p rfl) (.gtr rfl rfl)<|O.nil ?_
  first|refine S.condD rfl (fun h19=>?_) (fun h19=>?_)|refine S.condB rfl (fun h19=>?_) (fun h19=>?_)
  ·refine S.seq<|S.region rfl<|O.q 1 rfl<|O.nil ?_
   exact S.rt results281 rfl hR ⟨by simp only [cmpZ];rw [if_neg zE,if_pos zE],rfl⟩
  ·refine S.skip<|S.seq<|S.region rfl<|O.q 1 rfl<|O.nil ?_
   exact S.rt results281 rfl hR ⟨by simp only [cmpZ];rw [if_neg zE,if_neg zE],rfl⟩
def firstNZ:List Int→Int
 |[]=>0
 |x::l=>if x≠0 then x else firstNZ l
theorem firstNZ_drop {l:List Int} {i:Nat} (h:i<l.length):firstNZ (l.drop i)=if l[i]≠0 then l[i] else firstNZ (l.drop (i+1)):=by
 rw [List.drop_eq_getElem_cons h];rfl
theorem cmpOr_c {r:Fr} {va:Value} {l:List Int} (ha:Arr Rp.i64 r va l):Con prog 207 #[va] r [] (Ret fun v η=>v=.int .i64 (firstNZ l)∧η=[]):=by
 refine Con.of (n:=18) _ rfl func207 rfl rfl rfl fun g hg R hR=>?_;have ha:=ha.mono hg;have hbd:=ha.bound;obtain ⟨a1,c1,rfl⟩:=ha.shape;refine S.seq<|S.region rfl<|O.q 1 rfl<|O.nil<|S.seq<|S.region rfl<|O.q 1 rfl<|O.nil<|S.seq<|S.seq<|S.region rfl<|O.q 1 rfl<|O.op (.p rfl) (.len rfl underlying25 rfl)<|O.q 1 rfl<|O.nil<|S.block<|S.loopK (ι:=Nat) (fun i=>i≤l.length∧firstNZ (l.drop i)=firstNZ l) (fun i=>[(8,.int .i64 (i:Int))]) [(3,_),(6,_),(7,_)] (fun i=>[]) (fun i=>l.length - i) (0) zJ (.cons rfl (.nil)) (.cons rfl (.cons rfl (.cons rfl (.nil)))) rfl fun i hx ih=>?_;have hm1:=meltRefl (g:=g);obtain ⟨hx1,hx2⟩:=hx;refine S.seq<|S.region rfl<|O.op (.p rfl) (.lss rfl rfl)<|O.nil (S.seq ?_)
 first|refine S.condD rfl (fun h9=>?_) (fun h9=>?_)|refine S.condB rfl (fun h9=>?_) (fun h9=>?_)
 ·have hi:i<l.length:=by omega
  rw [firstNZ_drop hi] at hx2;refine S.skip<|S.seq<|S.block<|S.seq<|S.region rfl<|O.ia (.p rfl) underlying25 size3 rfl rfl rfl (by first|assumption|exact Arr.mono hg zD|exact Arr.left zD|exact Arr.left (Arr.mono hg zD)) (h:=fun p10 cs10 hp10 hr10=>?_);obtain ⟨rfl,hz10⟩:=hr10;refine O.op (.p rfl) (.loadAt flat3 rfl hp10 rfl) ?_;refine O.q 1 rfl<|O.nil<|S.seq<|S.region rfl<|O.q 2 rfl<|O.op (.p rfl) (.neq rfl rfl)<|O.nil ?_
  first|refine S.condD rfl (fun h14=>?_) (fun h14=>?_)|refine S.condB rfl (fun h14=>?_) (fun h14=>?_)
  ·rw [if_pos h14] at hx2
   clear ih;refine S.seq<|S.region rfl<|O.q 2 rfl<|O.nil ?_;exact S.rt results207 rfl hR ⟨by rw [hx2],rfl⟩
  ·rw [if_neg h14] at hx2
   refine S.skip<|S.inBlock<|S.region rfl<|O.op (.p rfl) (.add rfl rfl (IntWalk.i64_in _ zE))<|O.q 1 rfl<|O.nil ?_;exact S.wk (ih (i+1) (by exact ⟨by omega,hx2⟩) zE)
 ·clear ih
  have hi:i=l.length:=by omega
  subst hi;rw [List.drop_length] at hx2;refine S.exit rfl<|S.seq<|S.region rfl<|O.q 2 rfl<|O.nil ?_;exact S.rt results207 rfl hR ⟨by rw [← hx2];rfl,rfl⟩
theorem cmpOr_d {r:Fr} {e:TypeId} {va:Value} {l:List Int}:Con prog 207 #[va] r [OwnP Rp.i64 e va l] (Ret fun v η=>v=.int .i64 (firstNZ l)∧η=[]) :=
 Con.lentD (η:=[]) (bs:=[_]) fun _ hm hd=>cmpOr_c (hm.arr.right hd)
theorem vright_c {r:Fr} {a b:Int} (d:DotT) (h:d=(a,b,())):Con prog 224 #[.agg #[.int .i64 a,.int .i64 b]] r [] (Ret fun v η=>v=.bool (dotOk d)∧η=[]):=by
 subst h;refine Con.of (n:=21) _ rfl func224 rfl rfl rfl fun g hg R hR=>?_;refine S.seq<|S.region rfl<|O.opE (.p rfl) (.box (cs:=[_,_]) rfl rfl) ?_;rintro _ _ ⟨b1,rfl,rfl⟩;refine O.q 1 rfl<|O.nil<|S.seq<|S.region rfl<|O.op (.p rfl) (.fieldObj fld166x0 rfl)<|O.op (.p rfl) (.lo flat3) ?_;refine O.op (.p rfl) (.geq rfl rfl)<|O.q 1 rfl ?_
 first|refine O.caseD 6 rfl (fun h6=>?_) (fun h6=>?_)|refine O.caseB 6 rfl (fun h6=>?_) (fun h6=>?_)
 ·refine O.op (.g rfl rfl) (.fieldObj fld166x0 rfl)<|O.op (.g rfl rfl) (.lo flat3) ?_
  refine O.op (.g rfl rfl) (.leq rfl rfl)<|O.q 2 rfl ?_
  first|refine O.caseD 11 rfl (fun h11=>?_) (fun h11=>?_)|refine O.caseB 11 rfl (fun h11=>?_) (fun h11=>?_)
  ·refine O.op (.g rfl rfl) (.fieldObj fld166x1 rfl)<|O.op (.g rfl rfl) (.lo flat3) ?_
   refine O.op (.g rfl rfl) (.geq rfl rfl)<|O.q 2 rfl ?_
   first|refine O.caseD 16 rfl (fun h16=>?_) (fun h16=>?_)|refine O.caseB 16 rfl (fun h16=>?_) (fun h16=>?_)
   ·refine O.op (.g rfl rfl) (.fieldObj fld166x1 rfl)<|O.op (.g rfl rfl) (.lo flat3) ?_
    refine O.op (.g rfl rfl) (.leq rfl rfl)<|O.q 2 rfl<|O.nil ?_;exact S.rt results224 rfl hR ⟨congrArg _ (decide_eq_decide.2 (by simp only [true_and,and_true];omega)),rfl⟩
   ·refine O.q 5 rfl<|O.nil ?_
    exact S.rt results224 rfl hR ⟨congrArg _ (decide_eq_false (by simp only [];omega)).symm,rfl⟩
  ·refine O.q 10 rfl<|O.nil ?_
   exact S.rt results224 rfl hR ⟨congrArg _ (decide_eq_false (by simp only [];omega)).symm,rfl⟩
 ·refine O.q 15 rfl<|O.nil ?_
  exact S.rt results224 rfl hR ⟨congrArg _ (decide_eq_false (by simp only [];omega)).symm,rfl⟩
theorem dright_c {r:Fr} {va:Value} {v:List DotT} (ha:Arr DotRp r va v):Con prog 291 #[va] r [] (Ret fun u η=>u=.bool (vecOk v)∧η=[]):=by
 refine Con.of (n:=31) _ rfl func291 rfl rfl rfl fun g hg R hR=>?_;have ha:=ha.mono hg;have hbd:=ha.bound;obtain ⟨a1,c1,rfl⟩:=ha.shape;refine S.seq<|S.region rfl<|O.q 1 rfl<|O.nil<|S.seq<|S.seq<|S.region rfl<|O.q 1 rfl<|O.op (.p rfl) (.len rfl underlying250 rfl)<|O.q 1 rfl<|O.nil<|S.block<|S.loopK (ι:=Nat) (fun k=>k≤v.length∧vecOk (v.take k)=true) (fun k=>[(7,.int .i64 (k:Int))]) [(0,_),(5,_),(6,_)] (fun k=>[]) (fun k=>v.length - k) (0) (by exact ⟨by simp,rfl⟩) (.cons rfl (.nil)) (.cons rfl (.cons rfl (.cons rfl (.nil)))) rfl fun k hx ih=>?_;have hm1:=meltRefl (g:=g);obtain ⟨hx1,hx2⟩:=hx;refine S.seq<|S.region rfl<|O.op (.p rfl) (.lss rfl rfl)<|O.nil (S.seq ?_)
 first|refine S.condD rfl (fun h8=>?_) (fun h8=>?_)|refine S.condB rfl (fun h8=>?_) (fun h8=>?_)
 ·have hk:k<v.length:=by omega
  have hst:=vecOk_step hk hx2
  by_cases hd:dotOk v[k]=true
  ·by_cases h0:k=0
   ·
    refine S.skip<|S.seq<|S.block<|S.seq<|S.region rfl<|O.q 1 rfl<|O.ia (.p rfl) underlying250 size166 rfl rfl rfl (by first|assumption|exact Arr.mono hg zD|exact Arr.left zD|exact Arr.left (Arr.mono hg zD)) (h:=fun p10 cs10 hp10 hr10=>?_);obtain ⟨rfl,hi10,hj10⟩:=DotRp.open hr10;refine O.op (.p rfl) (.loadAgg isAgg166 zB rfl hp10) ?_;refine O.opE (.p rfl) (.alloc (cs:=[.int .i64 0,.int .i64 0]) zeroValue166 rfl) ?_;rintro _ _ ⟨b4,rfl,rfl⟩;refine O.q 1 rfl<|O.opU rfl (.storeObj zB rfl rfl rfl rfl zC zH) ?_;refine O.nil<|S.seq<|S.frzO zC fun g hs hm h4=>?_;replace hg:=Fr.sub_trans hg hs;replace hR:=melted hR hm
    try replace ha:=ha.mono hs
    try replace hp10:=hp10.mono hs
    try replace hr10:=hr10.mono hs
    replace hm1:=meltTrans hm1 hm;clear hs hm;refine S.regionD (L:=[0,1,2,3,4,5,6,7,8,9,10,11,12,13,14,15,16,17]) F.mixed zB ?_;refine .quiet (.p rfl) rfl (fun _=>.loadAgg isAgg166 zB rfl h4) ?_;refine OD.call0 (.p rfl) zB rfl zB rfl rfl (vright_c v[k] rfl) ?_;rintro _ _ ⟨rfl,rfl⟩
    try simp only [zx1,zx2,zx3]
    refine OD.sT 13 rfl (by exact hd) ?_;refine .quiet (.p rfl) rfl (fun _=>.not rfl)<|OD.q 2 rfl<|.quiet (.g rfl rfl) rfl (fun _=>.gtr rfl rfl)<|OD.sF 17 rfl zL ?_;refine OD.q 12 rfl<|ODx.nil<|S.condF rfl<|S.skip<|S.inBlock<|S.region rfl<|O.op (.p rfl) (.add rfl rfl (IntWalk.i64_in _ zE))<|O.q 1 rfl<|O.nil ?_;exact S.melt hm1 (S.wk (ih (k+1) (by exact ⟨by omega,hst.2 ⟨hd,fun h=>absurd h zE⟩⟩) zE))
   ·have hk1:k - 1<v.length:=by omega
    refine S.skip<|S.seq<|S.block<|S.seq<|S.region rfl<|O.q 1 rfl<|O.ia (.p rfl) underlying250 size166 rfl rfl rfl (by first|assumption|exact Arr.mono hg zD|exact Arr.left zD|exact Arr.left (Arr.mono hg zD)) (h:=fun p10 cs10 hp10 hr10=>?_);obtain ⟨rfl,hi10,hj10⟩:=DotRp.open hr10;refine O.op (.p rfl) (.loadAgg isAgg166 zB rfl hp10) ?_;refine O.opE (.p rfl) (.alloc (cs:=[.int .i64 0,.int .i64 0]) zeroValue166 rfl) ?_;rintro _ _ ⟨b4,rfl,rfl⟩;refine O.q 1 rfl<|O.opU rfl (.storeObj zB rfl rfl rfl rfl zC zH) ?_;refine O.nil<|S.seq<|S.frzO zC fun g hs hm h4=>?_;replace hg:=Fr.sub_trans hg hs;replace hR:=melted hR hm
    try replace ha:=ha.mono hs
    try replace hp10:=hp10.mono hs
    try replace hr10:=hr10.mono hs
    replace hm1:=meltTrans hm1 hm;clear hs hm;refine S.regionD (L:=[0,1,2,3,4,5,6,7,8,9,10,11,12,13,14,15,16,17]) F.mixed zB ?_;refine .quiet (.p rfl) rfl (fun _=>.loadAgg isAgg166 zB rfl h4) ?_;refine OD.call0 (.p rfl) zB rfl zB rfl rfl (vright_c v[k] rfl) ?_;rintro _ _ ⟨rfl,rfl⟩
    try simp only [zx1,zx2,zx3]
    refine OD.sT 13 rfl (by exact hd) ?_;refine .quiet (.p rfl) rfl (fun _=>.not rfl)<|OD.q 2 rfl<|.quiet (.g rfl rfl) rfl (fun _=>.gtr rfl rfl)<|OD.sT 17 rfl zL ?_;refine OD.q 3 rfl<|.quiet (.g rfl rfl) rfl (fun _=>.sub rfl rfl (IntWalk.i64_in _ zE))<|OD.ia (.g rfl rfl) underlying250 size166 rfl rfl (show _=(((k - 1):Nat):Int) by omega) (by first|assumption|exact Arr.mono hg zD|exact Arr.left zD|exact Arr.left (Arr.mono hg zD)) (h:=fun p22 cs22 hp22 hr22=>?_);obtain ⟨rfl,hi22,hj22⟩:=DotRp.open hr22;refine .quiet (.g rfl rfl) rfl (fun _=>.fieldAddr fld166x0 rfl)<|.quiet (.g rfl rfl) rfl (fun _=>.loadAt flat3 rfl hp22 rfl) ?_;refine .quiet (.g rfl rfl) rfl (fun _=>.fieldAddr fld166x0 rfl)<|.quiet (.g rfl rfl) rfl (fun _=>.loadAt flat3 rfl h4 rfl) ?_;refine .quiet (.g rfl rfl) rfl (fun _=>.geq rfl rfl)<|OD.q 2 rfl<|ODx.nil ?_
    first|refine S.condD rfl (fun h29=>?_) (fun h29=>?_)|refine S.condB rfl (fun h29=>?_) (fun h29=>?_)
    ·refine S.seq<|S.region rfl<|O.q 1 rfl<|O.nil<|S.ret results291 rfl fun w hw=>Holds.end_ hR hw ?_
     refine ⟨_,⟨?_,rfl⟩,by repeat (first|exact zpa|exact zpn|(apply zpc;focus (repeat (first|exact zh|apply zt)))|apply zps)⟩
     congr 1;symm
     refine vecOk_none (i:=k+1) ?_;rw [Bool.eq_false_iff]
     intro e
     have:=(hst.1 e).2 zE
     omega
    ·refine S.skip<|S.inBlock<|S.region rfl<|O.op (.p rfl) (.add rfl rfl (IntWalk.i64_in _ zE))<|O.q 1 rfl<|O.nil ?_
     exact S.melt hm1 (S.wk (ih (k+1) (by exact ⟨by omega,hst.2 ⟨hd,fun _=>by omega⟩⟩) zE))
  ·have hd' :dotOk v[k]=false:=by simpa using hd
   refine S.skip<|S.seq<|S.block<|S.seq<|S.region rfl<|O.q 1 rfl<|O.ia (.p rfl) underlying250 size166 rfl rfl rfl (by first|assumption|exact Arr.mono hg zD|exact Arr.left zD|exact Arr.left (Arr.mono hg zD)) (h:=fun p10 cs10 hp10 hr10=>?_);obtain ⟨rfl,hi10,hj10⟩:=DotRp.open hr10;refine O.op (.p rfl) (.loadAgg isAgg166 zB rfl hp10) ?_;refine O.opE (.p rfl) (.alloc (cs:=[.int .i64 0,.int .i64 0]) zeroValue166 rfl) ?_;rintro _ _ ⟨b4,rfl,rfl⟩;refine O.q 1 rfl<|O.opU rfl (.storeObj zB rfl rfl rfl rfl zC zH) ?_;refine O.nil<|S.seq<|S.frzO zC fun g hs hm h4=>?_;replace hg:=Fr.sub_trans hg hs;replace hR:=melted hR hm
   try replace ha:=ha.mono hs
   try replace hp10:=hp10.mono hs
   try replace hr10:=hr10.mono hs
   replace hm1:=meltTrans hm1 hm;clear hs hm;refine S.regionD (L:=[0,1,2,3,4,5,6,7,8,9,10,11,12,13,14,15,16,17]) F.mixed zB ?_;refine .quiet (.p rfl) rfl (fun _=>.loadAgg isAgg166 zB rfl h4) ?_;refine OD.call0 (.p rfl) zB rfl zB rfl rfl (vright_c v[k] rfl) ?_;rintro _ _ ⟨rfl,rfl⟩
   try simp only [zx1,zx2,zx3]
   refine OD.sF 13 rfl (by exact hd') ?_;refine .quiet (.p rfl) rfl (fun _=>.not rfl)<|OD.q 15 rfl<|ODx.nil<|S.condT rfl<|S.seq<|S.region rfl<|O.q 1 rfl<|O.nil ?_;clear ih;refine S.ret results291 rfl fun w hw=>Holds.end_ hR hw ?_;refine ⟨_,⟨?_,rfl⟩,by repeat (first|exact zpa|exact zpn|(apply zpc;focus (repeat (first|exact zh|apply zt)))|apply zps)⟩
   congr 1;symm
   refine vecOk_none (i:=k+1) ?_;rw [Bool.eq_false_iff]
   intro e
   exact hd (hst.1 e).1
 ·clear ih
  have hk:k=v.length:=by omega
  subst hk;rw [List.take_length] at hx2;refine S.exit rfl<|S.seq<|S.region rfl<|O.q 1 rfl<|O.nil ?_;exact S.rt results291 rfl hR ⟨by rw [hx2],rfl⟩
theorem at1_c {r:Fr} {a b c:Int}:Con prog 325 #[.agg #[.int .i64 a,.int .i64 b],.int .i64 c] r [] (Ret fun u η=>u=.int .i64 (cmpZ a c)∧η=[]):=by
 refine Con.of (n:=9) _ rfl func325 rfl rfl rfl fun g hg R hR=>?_;refine S.seq<|S.region rfl<|O.opE (.p rfl) (.box (cs:=[_,_]) rfl rfl) ?_;rintro _ _ ⟨b2,rfl,rfl⟩;refine O.q 1 rfl<|O.nil<|S.seq<|S.region rfl<|O.op (.p rfl) (.fieldObj fld166x0 rfl)<|O.op (.p rfl) (.lo flat3) ?_;refine O.q 1 rfl<|O.call0 (.p rfl) rfl zB rfl rfl (compare_c _ _) ?_;rintro _ _ ⟨rfl,rfl⟩
 try simp only [zx1,zx2,zx3]
 refine O.q 1 rfl<|O.nil ?_;exact S.rt results325 rfl hR ⟨rfl,rfl⟩
theorem half_eq {s:Nat} (h:s≤18446744073709551614 / 2):IntKind.i64.wrap ((IntKind.u64.wrap (s:Int)).fdiv (2 ^ min (1:Int).toNat IntKind.u64.bits))=((s / 2:Nat):Int):=by
 have e:IntKind.u64.wrap (s:Int)=(s:Int):=by rw [wrap_u64_eq];unfold u64;omega
 rw [e,IntKind.wrap_i64];have:(2:Int) ^ min (1:Int).toNat IntKind.u64.bits=2:=by decide
 rw [this];have h2:(s:Int).fdiv 2=((s / 2:Nat):Int):=by rw [Int.fdiv_eq_ediv_of_nonneg _ zE];omega
 rw [h2];omega
theorem bsearch_c {r:Fr} {va:Value} {v:List DotT} (c:Int) (ha:Arr DotRp r va v) (hv:Rises v) (hl:v.length≤1000000000000):Con prog 324 #[va,.int .i64 c,.func (.func 325) #[] #[]] r []
  (Ret fun u η=>∃ (k:Nat) (b:Bool),u=.tuple #[.int .i64 (k:Int),.bool b]∧k≤v.length∧(b=true→∃ h:k<v.length,v[k].1=c)∧(b=false→∀ i (hi:i<v.length),v[i].1≠c)∧η=[]):=by
 refine Con.of (n:=49) _ rfl func324 rfl rfl rfl fun g hg R hR=>?_;have ha:=ha.mono hg;obtain ⟨a1,c1,rfl⟩:=ha.shape;have hlt:∀ i j (hi:i<v.length) (hj:j<v.length),i<j→v[i].1<v[j].1:=fun i j hi hj h=>List.pairwise_iff_getElem.1 hv i j hi hj h;refine S.seq<|S.region rfl<|O.q 2 rfl<|O.nil<|S.seq<|S.region rfl<|O.q 1 rfl<|O.op (.p rfl) (.len rfl underlying250 rfl)<|O.q 1 rfl<|O.nil<|S.seq<|S.region rfl<|O.q 3 rfl<|O.nil<|S.seq<|S.block<|S.loopK2 (ι:=Nat) (κ:=Nat) (fun i j=>i≤j∧j≤v.length∧(∀ q (hq:q<v.length),q<i→v[q].1<c)∧(∀ q (hq:q<v.length),j≤q→c≤v[q].1)) (fun i j=>[(9,.int .i64 (i:Int)),(10,.int .i64 (j:Int))]) [(0,_),(1,_),(2,_),(8,_)] (fun i j=>[]) (fun i j=>j - i) (0) (v.length) (by exact ⟨by omega,by omega,fun q _ h=>absurd h zE,fun q hq h=>absurd hq zE⟩) (.cons rfl (.cons rfl (.nil))) (.cons rfl (.cons rfl (.cons rfl (.cons rfl (.nil))))) rfl fun i j hx ih=>?_;have hm1:=meltRefl (g:=g);obtain ⟨hij,hjl,hlo,hhi⟩:=hx;refine S.seq<|S.seq<|S.region rfl<|O.q 2 rfl<|O.op (.p rfl) (.lss rfl rfl)<|O.nil ?_
 first|refine S.condD rfl (fun h17=>?_) (fun h17=>?_)|refine S.condB rfl (fun h17=>?_) (fun h17=>?_)
 ·have hm:(i+j) / 2<v.length:=by omega
  have hfin:cmpZ v[(i+j) / 2].1 c<0↔v[(i+j) / 2].1<c:=by unfold cmpZ;split<;>(try split)<;>omega
  refine S.skip<|S.block<|S.seq<|S.region rfl<|O.q 2 rfl<|O.op (.p rfl) (.add rfl rfl (IntWalk.i64_in _ zE))<|O.op (.p rfl) (.cvt underlying3 underlying57 rfl)<|O.op (.p rfl) (.shr rfl rfl zE)<|O.op (.p rfl) (.cvt underlying57 underlying3 rfl)<|O.slot 23 (v' :=.int .i64 (((i+j) / 2:Nat):Int)) rfl (by exact congrArg _ (half_eq (s:=i+j) zE)) ?_;refine O.q 1 rfl<|O.nil<|S.seq<|S.region rfl<|O.q 3 rfl<|O.ia (.p rfl) underlying250 size166 rfl rfl (show _=((((i+j) / 2):Nat):Int) by omega) (by first|assumption|exact Arr.mono hg zD|exact Arr.left zD|exact Arr.left (Arr.mono hg zD)) (h:=fun p27 cs27 hp27 hr27=>?_);obtain ⟨rfl,hi27,hj27⟩:=DotRp.open hr27;refine O.op (.p rfl) (.loadAgg isAgg166 zB rfl hp27) ?_;refine O.q 1 rfl<|O.call0 (.p rfl) rfl zB rfl rfl (at1_c) ?_;rintro _ _ ⟨rfl,rfl⟩
  try simp only [zx1,zx2,zx3]
  refine O.op (.p rfl) (.lss rfl rfl)<|O.nil ?_
  first|refine S.condD rfl (fun h31=>?_) (fun h31=>?_)|refine S.condB rfl (fun h31=>?_) (fun h31=>?_)
  ·have hc:=hfin.1 h31
   refine S.region rfl<|O.q 1 rfl<|O.op (.p rfl) (.add rfl rfl (IntWalk.i64_in _ zE))<|O.q 1 rfl<|O.nil (S.inBlock ?_);exact S.wk (ih ((i+j) / 2+1) (j) (by (refine ⟨by omega,by omega,fun q hq h=>?_,hhi⟩;by_cases e:q=(i+j) / 2;(subst e;exact hc);(have:=hlt q ((i+j) / 2) hq hm zE;omega))) zE)
  ·have hc:c≤v[(i+j) / 2].1:=by have:=mt hfin.2 h31;omega
   refine S.region rfl<|O.q 2 rfl<|O.nil (S.inBlock ?_);exact S.wk (ih (i) ((i+j) / 2) (by (refine ⟨by omega,by omega,hlo,fun q hq h=>?_⟩;by_cases e:q=(i+j) / 2;(subst e;exact hc);(have:=hlt ((i+j) / 2) q hm hq zE;omega))) zE)
 ·clear ih
  have e:i=j:=by omega
  subst e
  by_cases hi:i<v.length
  ·
   have hc:=hhi i hi (Nat.le_refl _);have hfin:cmpZ v[i].1 c=0↔v[i].1=c:=by unfold cmpZ;split<;>(try split)<;>omega
   refine S.exit rfl<|S.seq<|S.region rfl<|O.q 3 rfl<|O.op (.p rfl) (.lss rfl rfl)<|O.sT 38 rfl zL ?_;refine O.q 4 rfl<|O.ia (.g rfl rfl) underlying250 size166 rfl rfl rfl (by first|assumption|exact Arr.mono hg zD|exact Arr.left zD|exact Arr.left (Arr.mono hg zD)) (h:=fun p43 cs43 hp43 hr43=>?_);obtain ⟨rfl,hi43,hj43⟩:=DotRp.open hr43;refine O.op (.g rfl rfl) (.loadAgg isAgg166 zB rfl hp43) ?_;refine O.q 1 rfl<|O.call0 (.g rfl rfl) rfl zB rfl rfl (at1_c) ?_;rintro _ _ ⟨rfl,rfl⟩
   try simp only [zx1,zx2,zx3]
   refine O.op (.g rfl rfl) (.eql rfl rfl)<|O.q 3 rfl<|O.nil<|S.ret2 results324 rfl rfl fun w hw=>Holds.end_ hR hw ?_;refine ⟨_,⟨i,_,rfl,hjl,fun hb=>⟨hi,hfin.1 (by simpa using hb)⟩,fun hb q hq e=>?_,rfl⟩,by repeat (first|exact zpa|exact zpn|(apply zpc;focus (repeat (first|exact zh|apply zt)))|apply zps)⟩;have hne:¬ v[i].1=c:=fun e2=>by simp [hfin.2 e2] at hb
   rcases Nat.lt_trichotomy q i with h|h|h
   ·have:=hlo q hq h;omega
   ·subst h;exact hne e
   ·have:=hlt i q hi hq h;omega
  ·
   refine S.exit rfl<|S.seq<|S.region rfl<|O.q 3 rfl<|O.op (.p rfl) (.lss rfl rfl)<|O.sF 38 rfl zL ?_;refine O.q 12 rfl<|O.nil<|S.ret2 results324 rfl rfl fun w hw=>Holds.end_ hR hw ?_;exact pk ⟨i,false,rfl,hjl,fun h=>(by cases h),fun _ q hq e=>by have:=hlo q hq zE;omega,rfl⟩
theorem at_c {r:Fr} {va:Value} {v:List DotT} (c:Int) (ha:Arr DotRp r va v) (hv:Rises v) (hl:v.length≤1000000000000):Con prog 292 #[va,.int .i64 c] r []
  (Ret fun u η=>∃ (k:Nat) (b:Bool),u=.tuple #[.int .i64 (k:Int),.bool b]∧k≤v.length∧(b=true→∃ h:k<v.length,v[k].1=c)∧(b=false→∀ i (hi:i<v.length),v[i].1≠c)∧η=[]):=by
 refine Con.of (n:=11) _ rfl func292 rfl rfl rfl fun g hg R hR=>?_;have ha:=ha.mono hg;refine S.seq<|S.region rfl<|O.q 2 rfl<|O.nil<|S.seq<|S.region rfl<|O.q 2 rfl<|O.call0 (.p rfl) rfl zB rfl rfl (bsearch_c _ (by first|assumption|exact Arr.mono hg zD|exact Arr.left zD|exact Arr.left (Arr.mono hg zD)) zD zI) ?_;rintro v8 _ ⟨k8,b8,rfl,hk8,ht8,hf8,rfl⟩
 try simp only [zx1,zx2,zx3]
 refine O.q 4 rfl<|O.nil<|S.ret2 results292 rfl rfl fun w hw=>Holds.end_ hR hw ?_;exact pk ⟨k8,b8,rfl,hk8,ht8,hf8,rfl⟩
theorem dhas_c {r:Fr} {va:Value} {v:List DotT} {a b:Int} (d:DotT) (h:d=(a,b,())) (ha:Arr DotRp r va v) (hv:Rises v) (hl:v.length≤1000000000000):Con prog 225 #[va,.agg #[.int .i64 a,.int .i64 b]] r []
  (Ret fun u η=>u=.bool (hasM v d)∧η=[]):=by
 subst h;refine Con.of (n:=25) _ rfl func225 rfl rfl rfl fun g hg R hR=>?_;have ha:=ha.mono hg;obtain ⟨a1,c1,rfl⟩:=ha.shape;refine S.seq<|S.region rfl<|O.opE (.p rfl) (.box (cs:=[_,_]) rfl rfl) ?_;rintro _ _ ⟨b3,rfl,rfl⟩;refine O.q 1 rfl<|O.nil<|S.seq<|S.region rfl<|O.q 1 rfl<|O.op (.p rfl) (.fieldObj fld166x0 rfl)<|O.op (.p rfl) (.lo flat3) ?_;refine O.call0 (.p rfl) rfl zB rfl rfl (at_c _ (by first|assumption|exact Arr.mono hg zD|exact Arr.left zD|exact Arr.left (Arr.mono hg zD)) zD zI) ?_;rintro v11 _ ⟨k11,b11,rfl,hk11,ht11,hf11,rfl⟩
 try simp only [zx1,zx2,zx3]
 refine O.q 5 rfl<|O.nil (S.seq ?_)
 cases b11 with
 |true =>
  obtain ⟨hk,hkc⟩:=ht11 rfl;refine S.frzO zC fun g hs hm h3=>?_;replace hg:=Fr.sub_trans hg hs;replace hR:=melted hR hm
  try replace ha:=ha.mono hs
  clear hs hm;refine S.regionD (L:=[0,1,2,3,4,5,6,7,8,9,10,11]) F.mixed zB ?_;refine OD.q 1 rfl<|OD.sT 14 rfl (by first|decide|simp) ?_;refine OD.q 3 rfl<|OD.ia (.g rfl rfl) underlying250 size166 rfl rfl (show _=(((k11):Nat):Int) by omega) (by first|assumption|exact Arr.mono hg zD|exact Arr.left zD|exact Arr.left (Arr.mono hg zD)) (h:=fun p18 cs18 hp18 hr18=>?_);obtain ⟨rfl,hi18,hj18⟩:=DotRp.open hr18;refine .quiet (.g rfl rfl) rfl (fun _=>.fieldAddr fld166x1 rfl)<|.quiet (.g rfl rfl) rfl (fun _=>.loadAt flat3 rfl (hp18.drop 1) rfl) ?_;refine .quiet (.g rfl rfl) rfl (fun _=>.fieldAddr fld166x1 rfl)<|.quiet (.g rfl rfl) rfl (fun _=>.loadAt flat3 rfl (h3.drop 1) rfl) ?_;refine .quiet (.g rfl rfl) rfl (fun _=>.geq rfl rfl)<|OD.q 2 rfl<|ODx.nil ?_;exact S.rt results225 rfl hR ⟨by rw [hasM_at hv hk hkc],rfl⟩
 |false =>
  refine S.frzO zC fun g hs hm h3=>?_;replace hg:=Fr.sub_trans hg hs;replace hR:=melted hR hm
  try replace ha:=ha.mono hs
  clear hs hm;refine S.regionD (L:=[0,1,2,3,4,5,6,7,8,9,10,11]) F.mixed zB ?_;refine OD.q 1 rfl<|OD.sF 14 rfl (by first|decide|simp) ?_;refine OD.q 11 rfl<|ODx.nil ?_;exact S.rt results225 rfl hR ⟨by rw [hasM_no (hf11 rfl)],rfl⟩
theorem vRight_c {r:Fr} {va:Value} {v:List DotT} (ha:Arr DotRp r va v):Con prog 223 #[va] r [] (Ret fun u η=>u=.bool (vecOk v)∧η=[]):=by
 refine Con.of (n:=5) _ rfl func223 rfl rfl rfl fun g hg R hR=>?_;have ha:=ha.mono hg;refine S.seq<|S.region rfl<|O.q 1 rfl<|O.nil<|S.seq<|S.region rfl<|O.q 1 rfl<|O.call0 (.p rfl) rfl zB rfl rfl (dright_c (by first|assumption|exact Arr.mono hg zD|exact Arr.left zD|exact Arr.left (Arr.mono hg zD))) ?_;rintro _ _ ⟨rfl,rfl⟩
 try simp only [zx1,zx2,zx3]
 refine O.q 1 rfl<|O.nil ?_;exact S.rt results223 rfl hR ⟨rfl,rfl⟩
theorem vHas_c {r:Fr} {va:Value} {v:List DotT} {a b:Int} (d:DotT) (h:d=(a,b,())) (ha:Arr DotRp r va v):Con prog 123 #[va,.agg #[.int .i64 a,.int .i64 b]] r [] (Ret fun u η=>u=.bool (hasR v d)∧η=[]):=by
 subst h;refine Con.of (n:=16) _ rfl func123 rfl rfl rfl fun g hg R hR=>?_;have ha:=ha.mono hg
 cases hv:vecOk v with
 |false =>
  refine S.seq<|S.region rfl<|O.opE (.p rfl) (.box (cs:=[_,_]) rfl rfl) ?_;rintro _ _ ⟨b3,rfl,rfl⟩;refine O.q 1 rfl<|O.nil<|S.seq<|S.region rfl<|O.q 1 rfl<|O.call0 (.p rfl) rfl zB rfl rfl (vRight_c (by first|assumption|exact Arr.mono hg zD|exact Arr.left zD|exact Arr.left (Arr.mono hg zD))) ?_;rintro _ _ ⟨rfl,rfl⟩
  try simp only [zx1,zx2,zx3]
  refine O.sF 6 rfl (by exact hv) ?_;refine O.q 10 rfl<|O.nil ?_;exact S.rt results123 rfl hR ⟨by simp [hasR,hv],rfl⟩
 |true =>
  have hr:=(vecOk_iff.1 hv).2;have hl:=rises_len hv
  cases hd:dotOk (a,b,()) with
  |false =>
   refine S.seq<|S.region rfl<|O.opE (.p rfl) (.box (cs:=[_,_]) rfl rfl) ?_;rintro _ _ ⟨b3,rfl,rfl⟩;refine O.q 1 rfl<|O.nil<|S.seq<|S.region rfl<|O.q 1 rfl<|O.call0 (.p rfl) rfl zB rfl rfl (vRight_c (by first|assumption|exact Arr.mono hg zD|exact Arr.left zD|exact Arr.left (Arr.mono hg zD))) ?_;rintro _ _ ⟨rfl,rfl⟩
   try simp only [zx1,zx2,zx3]
   refine O.sT 6 rfl (by exact hv) ?_;refine O.q 1 rfl<|O.op (.g rfl rfl) (.loA (news:=[_,_]) isAgg166) ?_;refine O.call0 (.g rfl rfl) rfl zB rfl rfl (vright_c _ rfl) ?_;rintro _ _ ⟨rfl,rfl⟩
   try simp only [zx1,zx2,zx3]
   refine O.sF 9 rfl (by exact hd) ?_;refine O.q 7 rfl<|O.nil ?_;exact S.rt results123 rfl hR ⟨by simp [hasR,hd],rfl⟩
  |true =>
   refine S.seq<|S.region rfl<|O.opE (.p rfl) (.box (cs:=[_,_]) rfl rfl) ?_;rintro _ _ ⟨b3,rfl,rfl⟩;refine O.q 1 rfl<|O.nil<|S.seq<|S.region rfl<|O.q 1 rfl<|O.call0 (.p rfl) rfl zB rfl rfl (vRight_c (by first|assumption|exact Arr.mono hg zD|exact Arr.left zD|exact Arr.left (Arr.mono hg zD))) ?_;rintro _ _ ⟨rfl,rfl⟩
   try simp only [zx1,zx2,zx3]
   refine O.sT 6 rfl (by exact hv) ?_;refine O.q 1 rfl<|O.op (.g rfl rfl) (.loA (news:=[_,_]) isAgg166) ?_;refine O.call0 (.g rfl rfl) rfl zB rfl rfl (vright_c _ rfl) ?_;rintro _ _ ⟨rfl,rfl⟩
   try simp only [zx1,zx2,zx3]
   refine O.sT 9 rfl (by exact hd) ?_;refine O.q 3 rfl<|O.op (.g rfl rfl) (.loA (news:=[_,_]) isAgg166) ?_;refine O.call0 (.g rfl rfl) rfl zB rfl rfl (dhas_c _ rfl (by first|assumption|exact Arr.mono hg zD|exact Arr.left zD|exact Arr.left (Arr.mono hg zD)) zD zI) ?_;rintro _ _ ⟨rfl,rfl⟩
   try simp only [zx1,zx2,zx3]
   refine O.q 2 rfl<|O.nil ?_;exact S.rt results123 rfl hR ⟨by simp [hasR,hv,hd],rfl⟩
theorem wdot_c {r:Fr} {cs:List Value} {x:RecT} (h:RecRp.rel r cs x):Con prog 124 #[.agg cs.toArray] r [] (Ret fun v η=>v=.agg #[.int .i64 x.2.1,.int .i64 x.2.2.1]∧η=[]):=by
 obtain ⟨v3,v5,v6,rfl,k0,k1,k2,k3,k5,k6⟩:=RecRp.open h;refine Con.of (n:=10) _ rfl func124 rfl rfl rfl fun g hg R hR=>?_;refine S.seq<|S.region rfl<|O.opE (.p rfl) (.box (cs:=[_,_,_,_,_,_,_]) rfl rfl) ?_;rintro _ _ ⟨b1,rfl,rfl⟩;refine O.opE (.p rfl) (.alloc (cs:=[.int .i64 0,.int .i64 0]) zeroValue166 rfl) ?_;rintro _ _ ⟨b2,rfl,rfl⟩;refine O.nil<|S.seq<|S.region rfl<|O.op (.p rfl) (.fieldObj fld163x0 rfl)<|O.op (.p rfl) (.fieldObj fld74x1 rfl)<|O.op (.p rfl) (.lo flat3) ?_;refine O.op (.p rfl) (.fieldObj fld163x0 rfl)<|O.op (.p rfl) (.fieldObj fld74x2 rfl)<|O.op (.p rfl) (.lo flat3) ?_;refine O.op (.p rfl) (.build (cs:=[_,_]) underlying166 rfl rfl rfl rfl rfl)<|O.opU rfl (.storeObj zB rfl rfl rfl rfl zC zH) ?_;refine O.nil<|S.retCellAgg results124 isAgg166 zB rfl zC fun w hw=>Holds.end_ hR hw ?_;exact pk ⟨rfl,rfl⟩
theorem wshaped_c {r:Fr} {cs:List Value} {x:RecT} (h:RecRp.rel r cs x):Con prog 122 #[.agg cs.toArray] r [] (Ret fun v η=>v=.bool (shaped x)∧η=[]):=by
 obtain ⟨v3,v5,v6,rfl,k0,k1,k2,k3,k5,k6⟩:=RecRp.open h;refine Con.of (n:=48) _ rfl func122 rfl rfl rfl fun g hg R hR=>?_;have h:=h.mono hg;have k3:=k3.mono hg;have k5:=k5.mono hg;have k6:=k6.mono hg;obtain ⟨a3,c3,rfl⟩:=k3.shape;obtain ⟨a5,c5,rfl⟩:=k5.shape;obtain ⟨a6,c6,rfl⟩:=k6.shape
 by_cases n1:x.1.length<1
 ·have e:shaped x=false:=by unfold shaped;rw [decide_eq_false (show ¬ 1≤x.1.length by omega)];rfl
  refine S.seq<|S.region rfl<|O.opE (.p rfl) (.box (cs:=[_,_,_,_,_,_,_]) rfl rfl) ?_;rintro _ _ ⟨b1,rfl,rfl⟩;refine O.q 1 rfl<|O.nil<|S.seq<|S.block<|S.seq<|S.seq<|S.region rfl<|O.op (.p rfl) (.fieldObj fld163x0 rfl)<|O.op (.p rfl) (.fieldObj fld74x0 rfl)<|O.op (.p rfl) (.lo flat9) ?_;refine O.op (.p rfl) (.lenS rfl underlying9 rfl)<|O.op (.p rfl) (.lss rfl rfl)<|O.sT 8 rfl zL ?_;refine O.q 1 rfl<|O.nil<|S.condT rfl<|S.skip<|S.condT rfl<|S.seq<|S.region rfl<|O.q 1 rfl<|O.nil ?_;exact S.rt results122 rfl hR ⟨by rw [e],rfl⟩
 have e1:1≤x.1.length:=by omega
 by_cases n2:64<x.1.length
 ·have e:shaped x=false:=by unfold shaped;rw [decide_eq_false (show ¬ x.1.length≤64 by omega)];simp
  refine S.seq<|S.region rfl<|O.opE (.p rfl) (.box (cs:=[_,_,_,_,_,_,_]) rfl rfl) ?_;rintro _ _ ⟨b1,rfl,rfl⟩;refine O.q 1 rfl<|O.nil<|S.seq<|S.block<|S.seq<|S.seq<|S.region rfl<|O.op (.p rfl) (.fieldObj fld163x0 rfl)<|O.op (.p rfl) (.fieldObj fld74x0 rfl)<|O.op (.p rfl) (.lo flat9) ?_;refine O.op (.p rfl) (.lenS rfl underlying9 rfl)<|O.op (.p rfl) (.lss rfl rfl)<|O.sF 8 rfl zL ?_;refine O.q 1 rfl<|O.nil<|S.condF rfl<|S.seq<|S.region rfl<|O.op (.p rfl) (.fieldObj fld163x0 rfl)<|O.op (.p rfl) (.fieldObj fld74x0 rfl)<|O.op (.p rfl) (.lo flat9) ?_;refine O.op (.p rfl) (.lenS rfl underlying9 rfl)<|O.op (.p rfl) (.gtr rfl rfl)<|O.sT 13 rfl zL ?_;refine O.q 1 rfl<|O.nil<|S.condT rfl<|S.skip<|S.condT rfl<|S.seq<|S.region rfl<|O.q 1 rfl<|O.nil ?_;exact S.rt results122 rfl hR ⟨by rw [e],rfl⟩
 have e2:x.1.length≤64:=by omega
 have hv1:vecOk [rDot x]=dotOk (rDot x):=by
  cases hd:dotOk (rDot x) with
  |true=>rw [vecOk_iff];exact ⟨fun d q=>by rw [List.mem_singleton.1 q];exact hd,List.pairwise_singleton ..⟩
  |false =>
   rw [Bool.eq_false_iff]
   intro q
   have:=(vecOk_iff.1 q).1 _ (List.mem_singleton.2 rfl);rw [hd] at this;cases this
 cases e3:dotOk (rDot x) with
 |false =>
  have e:shaped x=false:=by unfold shaped;rw [e3];simp
  refine S.seq<|S.region rfl<|O.opE (.p rfl) (.box (cs:=[_,_,_,_,_,_,_]) rfl rfl) ?_;rintro _ _ ⟨b1,rfl,rfl⟩;refine O.q 1 rfl<|O.nil<|S.seq<|S.block<|S.seq<|S.seq<|S.region rfl<|O.op (.p rfl) (.fieldObj fld163x0 rfl)<|O.op (.p rfl) (.fieldObj fld74x0 rfl)<|O.op (.p rfl) (.lo flat9) ?_;refine O.op (.p rfl) (.lenS rfl underlying9 rfl)<|O.op (.p rfl) (.lss rfl rfl)<|O.sF 8 rfl zL ?_;refine O.q 1 rfl<|O.nil<|S.condF rfl<|S.seq<|S.region rfl<|O.op (.p rfl) (.fieldObj fld163x0 rfl)<|O.op (.p rfl) (.fieldObj fld74x0 rfl)<|O.op (.p rfl) (.lo flat9) ?_;refine O.op (.p rfl) (.lenS rfl underlying9 rfl)<|O.op (.p rfl) (.gtr rfl rfl)<|O.sF 13 rfl zL ?_;refine O.q 1 rfl<|O.nil<|S.condF rfl<|S.seq<|S.region rfl<|O.op (.p rfl) (.loA (news:=[_,_,_,_,_,_,_]) isAgg163) ?_;refine O.call0 (.p rfl) rfl zB rfl rfl (wdot_c (by first|assumption|exact Rp.rel.mono zD hg)) ?_;rintro _ _ ⟨rfl,rfl⟩
  try simp only [zx1,zx2,zx3]
  refine O.opE (.p rfl) (.litP (T:=DotRp) (ys:=[rDot x]) underlying72 elem166 zF rfl rfl ⟨DotRp.mk k1 k2,trivial⟩ zF) ?_;rintro _ _ ⟨a16,c16,rfl,rfl⟩;refine O.frzA zC fun g hs hm ha16=>?_;replace hg:=Fr.sub_trans hg hs;replace hR:=melted hR hm
  try replace h:=h.mono hs
  try replace k3:=k3.mono hs
  try replace k5:=k5.mono hs
  try replace k6:=k6.mono hs
  clear hs hm;refine O.call0 (.p rfl) rfl zB rfl rfl (vRight_c (by first|assumption|exact Arr.mono hg zD|exact Arr.left zD|exact Arr.left (Arr.mono hg zD))) ?_;rintro _ _ ⟨rfl,rfl⟩
  try simp only [zx1,zx2,zx3]
  refine O.sF 17 rfl (by rw [hv1,e3]) ?_;refine O.op (.p rfl) (.not rfl)<|O.q 1 rfl<|O.nil<|S.condT rfl<|S.skip<|S.condT rfl<|S.seq<|S.region rfl<|O.q 1 rfl<|O.nil ?_;exact S.rt results122 rfl hR ⟨by rw [e],rfl⟩
 |true =>
  cases e4:vecOk x.2.2.2.1 with
  |false =>
   have e:shaped x=false:=by unfold shaped;rw [e4];simp
   refine S.seq<|S.region rfl<|O.opE (.p rfl) (.box (cs:=[_,_,_,_,_,_,_]) rfl rfl) ?_;rintro _ _ ⟨b1,rfl,rfl⟩;refine O.q 1 rfl<|O.nil<|S.seq<|S.block<|S.seq<|S.seq<|S.region rfl<|O.op (.p rfl) (.fieldObj fld163x0 rfl)<|O.op (.p rfl) (.fieldObj fld74x0 rfl)<|O.op (.p rfl) (.lo flat9) ?_;refine O.op (.p rfl) (.lenS rfl underlying9 rfl)<|O.op (.p rfl) (.lss rfl rfl)<|O.sF 8 rfl zL ?_;refine O.q 1 rfl<|O.nil<|S.condF rfl<|S.seq<|S.region rfl<|O.op (.p rfl) (.fieldObj fld163x0 rfl)<|O.op (.p rfl) (.fieldObj fld74x0 rfl)<|O.op (.p rfl) (.lo flat9) ?_;refine O.op (.p rfl) (.lenS rfl underlying9 rfl)<|O.op (.p rfl) (.gtr rfl rfl)<|O.sF 13 rfl zL ?_;refine O.q 1 rfl<|O.nil<|S.condF rfl<|S.seq<|S.region rfl<|O.op (.p rfl) (.loA (news:=[_,_,_,_,_,_,_]) isAgg163) ?_;refine O.call0 (.p rfl) rfl zB rfl rfl (wdot_c (by first|assumption|exact Rp.rel.mono zD hg)) ?_;rintro _ _ ⟨rfl,rfl⟩
   try simp only [zx1,zx2,zx3]
   refine O.opE (.p rfl) (.litP (T:=DotRp) (ys:=[rDot x]) underlying72 elem166 zF rfl rfl ⟨DotRp.mk k1 k2,trivial⟩ zF) ?_;rintro _ _ ⟨a16,c16,rfl,rfl⟩;refine O.frzA zC fun g hs hm ha16=>?_;replace hg:=Fr.sub_trans hg hs;replace hR:=melted hR hm
   try replace h:=h.mono hs
   try replace k3:=k3.mono hs
   try replace k5:=k5.mono hs
   try replace k6:=k6.mono hs
   clear hs hm;refine O.call0 (.p rfl) rfl zB rfl rfl (vRight_c (by first|assumption|exact Arr.mono hg zD|exact Arr.left zD|exact Arr.left (Arr.mono hg zD))) ?_;rintro _ _ ⟨rfl,rfl⟩
   try simp only [zx1,zx2,zx3]
   refine O.sT 17 rfl (by rw [hv1,e3]) ?_;refine O.op (.p rfl) (.not rfl)<|O.q 1 rfl<|O.nil<|S.condF rfl<|S.seq<|S.region rfl<|O.op (.p rfl) (.fieldObj fld163x0 rfl)<|O.op (.p rfl) (.fieldObj fld74x3 rfl)<|O.op (.p rfl) (.lo flat72) ?_;refine O.call0 (.p rfl) rfl zB rfl rfl (vRight_c (by first|assumption|exact Arr.mono hg zD|exact Arr.left zD|exact Arr.left (Arr.mono hg zD))) ?_;rintro _ _ ⟨rfl,rfl⟩
   try simp only [zx1,zx2,zx3]
   refine O.sF 22 rfl (by exact e4) ?_;refine O.op (.p rfl) (.not rfl)<|O.q 1 rfl<|O.nil<|S.condT rfl<|S.skip<|S.condT rfl<|S.seq<|S.region rfl<|O.q 1 rfl<|O.nil ?_;exact S.rt results122 rfl hR ⟨by rw [e],rfl⟩
  |true =>
   cases e5:hasR x.2.2.2.1 (rDot x) with
   |true =>
    have e:shaped x=false:=by unfold shaped;rw [e5];simp
    refine S.seq<|S.region rfl<|O.opE (.p rfl) (.box (cs:=[_,_,_,_,_,_,_]) rfl rfl) ?_;rintro _ _ ⟨b1,rfl,rfl⟩;refine O.q 1 rfl<|O.nil<|S.seq<|S.block<|S.seq<|S.seq<|S.region rfl<|O.op (.p rfl) (.fieldObj fld163x0 rfl)<|O.op (.p rfl) (.fieldObj fld74x0 rfl)<|O.op (.p rfl) (.lo flat9) ?_;refine O.op (.p rfl) (.lenS rfl underlying9 rfl)<|O.op (.p rfl) (.lss rfl rfl)<|O.sF 8 rfl zL ?_;refine O.q 1 rfl<|O.nil<|S.condF rfl<|S.seq<|S.region rfl<|O.op (.p rfl) (.fieldObj fld163x0 rfl)<|O.op (.p rfl) (.fieldObj fld74x0 rfl)<|O.op (.p rfl) (.lo flat9) ?_;refine O.op (.p rfl) (.lenS rfl underlying9 rfl)<|O.op (.p rfl) (.gtr rfl rfl)<|O.sF 13 rfl zL ?_;refine O.q 1 rfl<|O.nil<|S.condF rfl<|S.seq<|S.region rfl<|O.op (.p rfl) (.loA (news:=[_,_,_,_,_,_,_]) isAgg163) ?_;refine O.call0 (.p rfl) rfl zB rfl rfl (wdot_c (by first|assumption|exact Rp.rel.mono zD hg)) ?_;rintro _ _ ⟨rfl,rfl⟩
    try simp only [zx1,zx2,zx3]
    refine O.opE (.p rfl) (.litP (T:=DotRp) (ys:=[rDot x]) underlying72 elem166 zF rfl rfl ⟨DotRp.mk k1 k2,trivial⟩ zF) ?_;rintro _ _ ⟨a16,c16,rfl,rfl⟩;refine O.frzA zC fun g hs hm ha16=>?_;replace hg:=Fr.sub_trans hg hs;replace hR:=melted hR hm
    try replace h:=h.mono hs
    try replace k3:=k3.mono hs
    try replace k5:=k5.mono hs
    try replace k6:=k6.mono hs
    clear hs hm;refine O.call0 (.p rfl) rfl zB rfl rfl (vRight_c (by first|assumption|exact Arr.mono hg zD|exact Arr.left zD|exact Arr.left (Arr.mono hg zD))) ?_;rintro _ _ ⟨rfl,rfl⟩
    try simp only [zx1,zx2,zx3]
    refine O.sT 17 rfl (by rw [hv1,e3]) ?_;refine O.op (.p rfl) (.not rfl)<|O.q 1 rfl<|O.nil<|S.condF rfl<|S.seq<|S.region rfl<|O.op (.p rfl) (.fieldObj fld163x0 rfl)<|O.op (.p rfl) (.fieldObj fld74x3 rfl)<|O.op (.p rfl) (.lo flat72) ?_;refine O.call0 (.p rfl) rfl zB rfl rfl (vRight_c (by first|assumption|exact Arr.mono hg zD|exact Arr.left zD|exact Arr.left (Arr.mono hg zD))) ?_;rintro _ _ ⟨rfl,rfl⟩
    try simp only [zx1,zx2,zx3]
    refine O.sT 22 rfl (by exact e4) ?_;refine O.op (.p rfl) (.not rfl)<|O.q 1 rfl<|O.nil<|S.condF rfl<|S.frzO zC fun g hs hm hbx=>?_;replace hg:=Fr.sub_trans hg hs;replace hR:=melted hR hm
    try replace h:=h.mono hs
    try replace k3:=k3.mono hs
    try replace k5:=k5.mono hs
    try replace k6:=k6.mono hs
    try replace ha16:=ha16.mono hs
    clear hs hm;refine S.regionD (L:=[0,1,2,3,4,5,6]) F.mixed zB ?_;refine .quiet (.p rfl) rfl (fun _=>.fieldAddr fld163x0 rfl)<|.quiet (.p rfl) rfl (fun _=>.fieldAddr fld74x3 rfl)<|.quiet (.p rfl) rfl (fun _=>.loadAt flat72 rfl (hbx.drop 3) rfl) ?_;refine .quiet (.p rfl) rfl (fun _=>.loadAgg isAgg163 zB rfl hbx) ?_;refine OD.call0 (.p rfl) zB rfl zB rfl rfl (wdot_c (by first|assumption|exact Rp.rel.mono zD hg)) ?_;rintro _ _ ⟨rfl,rfl⟩
    try simp only [zx1,zx2,zx3]
    refine OD.call0 (.p rfl) zB rfl zB rfl rfl (vHas_c (rDot x) rfl (by first|assumption|exact Arr.mono hg zD|exact Arr.left zD|exact Arr.left (Arr.mono hg zD))) ?_;rintro _ _ ⟨rfl,rfl⟩
    try simp only [zx1,zx2,zx3]
    refine OD.sT 29 rfl (by exact e5) ?_;refine OD.q 1 rfl<|ODx.nil<|S.condT rfl<|S.seq<|S.region rfl<|O.q 1 rfl<|O.nil ?_;exact S.rt results122 rfl hR ⟨by rw [e],rfl⟩
   |false =>
    have e:shaped x=(decide (x.2.2.2.2.2.1.length≤1024) && (!x.2.2.2.2.1 ||decide (x.2.2.2.2.2.1.length=0))):=by unfold shaped;rw [decide_eq_true e1,decide_eq_true e2,e3,e4,e5];simp
    rw [e] at hR;clear e;refine S.seq<|S.region rfl<|O.opE (.p rfl) (.box (cs:=[_,_,_,_,_,_,_]) rfl rfl) ?_;rintro _ _ ⟨b1,rfl,rfl⟩;refine O.q 1 rfl<|O.nil<|S.seq<|S.block<|S.seq<|S.seq<|S.region rfl<|O.op (.p rfl) (.fieldObj fld163x0 rfl)<|O.op (.p rfl) (.fieldObj fld74x0 rfl)<|O.op (.p rfl) (.lo flat9) ?_;refine O.op (.p rfl) (.lenS rfl underlying9 rfl)<|O.op (.p rfl) (.lss rfl rfl)<|O.sF 8 rfl zL ?_;refine O.q 1 rfl<|O.nil<|S.condF rfl<|S.seq<|S.region rfl<|O.op (.p rfl) (.fieldObj fld163x0 rfl)<|O.op (.p rfl) (.fieldObj fld74x0 rfl)<|O.op (.p rfl) (.lo flat9) ?_;refine O.op (.p rfl) (.lenS rfl underlying9 rfl)<|O.op (.p rfl) (.gtr rfl rfl)<|O.sF 13 rfl zL ?_;refine O.q 1 rfl<|O.nil<|S.condF rfl<|S.seq<|S.region rfl<|O.op (.p rfl) (.loA (news:=[_,_,_,_,_,_,_]) isAgg163) ?_;refine O.call0 (.p rfl) rfl zB rfl rfl (wdot_c (by first|assumption|exact Rp.rel.mono zD hg)) ?_;rintro _ _ ⟨rfl,rfl⟩
    try simp only [zx1,zx2,zx3]
    refine O.opE (.p rfl) (.litP (T:=DotRp) (ys:=[rDot x]) underlying72 elem166 zF rfl rfl ⟨DotRp.mk k1 k2,trivial⟩ zF) ?_;rintro _ _ ⟨a16,c16,rfl,rfl⟩;refine O.frzA zC fun g hs hm ha16=>?_;replace hg:=Fr.sub_trans hg hs;replace hR:=melted hR hm
    try replace h:=h.mono hs
    try replace k3:=k3.mono hs
    try replace k5:=k5.mono hs
    try replace k6:=k6.mono hs
    clear hs hm;refine O.call0 (.p rfl) rfl zB rfl rfl (vRight_c (by first|assumption|exact Arr.mono hg zD|exact Arr.left zD|exact Arr.left (Arr.mono hg zD))) ?_;rintro _ _ ⟨rfl,rfl⟩
    try simp only [zx1,zx2,zx3]
    refine O.sT 17 rfl (by rw [hv1,e3]) ?_;refine O.op (.p rfl) (.not rfl)<|O.q 1 rfl<|O.nil<|S.condF rfl<|S.seq<|S.region rfl<|O.op (.p rfl) (.fieldObj fld163x0 rfl)<|O.op (.p rfl) (.fieldObj fld74x3 rfl)<|O.op (.p rfl) (.lo flat72) ?_;refine O.call0 (.p rfl) rfl zB rfl rfl (vRight_c (by first|assumption|exact Arr.mono hg zD|exact Arr.left zD|exact Arr.left (Arr.mono hg zD))) ?_;rintro _ _ ⟨rfl,rfl⟩
    try simp only [zx1,zx2,zx3]
    refine O.sT 22 rfl (by exact e4) ?_;refine O.op (.p rfl) (.not rfl)<|O.q 1 rfl<|O.nil<|S.condF rfl<|S.frzO zC fun g hs hm hbx=>?_;replace hg:=Fr.sub_trans hg hs;replace hR:=melted hR hm
    try replace h:=h.mono hs
    try replace k3:=k3.mono hs
    try replace k5:=k5.mono hs
    try replace k6:=k6.mono hs
    try replace ha16:=ha16.mono hs
    clear hs hm;refine S.regionD (L:=[0,1,2,3,4,5,6]) F.mixed zB ?_;refine .quiet (.p rfl) rfl (fun _=>.fieldAddr fld163x0 rfl)<|.quiet (.p rfl) rfl (fun _=>.fieldAddr fld74x3 rfl)<|.quiet (.p rfl) rfl (fun _=>.loadAt flat72 rfl (hbx.drop 3) rfl) ?_;refine .quiet (.p rfl) rfl (fun _=>.loadAgg isAgg163 zB rfl hbx) ?_;refine OD.call0 (.p rfl) zB rfl zB rfl rfl (wdot_c (by first|assumption|exact Rp.rel.mono zD hg)) ?_;rintro _ _ ⟨rfl,rfl⟩
    try simp only [zx1,zx2,zx3]
    refine OD.call0 (.p rfl) zB rfl zB rfl rfl (vHas_c (rDot x) rfl (by first|assumption|exact Arr.mono hg zD|exact Arr.left zD|exact Arr.left (Arr.mono hg zD))) ?_;rintro _ _ ⟨rfl,rfl⟩
    try simp only [zx1,zx2,zx3]
    refine OD.sF 29 rfl (by exact e5) ?_;refine OD.q 1 rfl<|ODx.nil<|S.condF rfl<|S.skip (S.inBlock (S.seq ?_))
    by_cases n6:1024<x.2.2.2.2.2.1.length
    ·
     refine S.region rfl<|O.op (.p rfl) (.fieldAddr fld163x0 rfl)<|O.op (.p rfl) (.fieldAddr fld74x5 rfl)<|O.op (.p rfl) (.loadAt flat31 rfl (hbx.drop 5) rfl) ?_;refine O.op (.p rfl) (.len rfl underlying31 rfl)<|O.op (.p rfl) (.leq rfl rfl)<|O.sF 34 rfl zL ?_;refine O.q 14 rfl<|O.nil ?_;exact S.rt results122 rfl hR ⟨by rw [decide_eq_false (show ¬ x.2.2.2.2.2.1.length≤1024 by omega)];rfl,rfl⟩
    have e6:x.2.2.2.2.2.1.length≤1024:=by omega
    cases e7:x.2.2.2.2.1 with
    |false =>
     refine S.region rfl<|O.op (.p rfl) (.fieldAddr fld163x0 rfl)<|O.op (.p rfl) (.fieldAddr fld74x5 rfl)<|O.op (.p rfl) (.loadAt flat31 rfl (hbx.drop 5) rfl) ?_;refine O.op (.p rfl) (.len rfl underlying31 rfl)<|O.op (.p rfl) (.leq rfl rfl)<|O.sT 34 rfl zL ?_;refine O.q 1 rfl<|O.op (.g rfl rfl) (.fieldAddr fld163x0 rfl)<|O.op (.g rfl rfl) (.fieldAddr fld74x4 rfl)<|O.op (.g rfl rfl) (.loadAt flat4 rfl (hbx.drop 4) rfl) ?_;refine O.slot 38 (v' :=.bool false) rfl (by rw [e7]) ?_;refine O.op (.g rfl rfl) ((by first|exact .notD rfl|exact .not rfl)) ?_;refine O.sT 39 rfl (by rfl) ?_;refine O.q 9 rfl<|O.nil ?_;exact S.rt results122 rfl hR ⟨by rw [decide_eq_true e6,e7];rfl,rfl⟩
    |true =>
     refine S.region rfl<|O.op (.p rfl) (.fieldAddr fld163x0 rfl)<|O.op (.p rfl) (.fieldAddr fld74x5 rfl)<|O.op (.p rfl) (.loadAt flat31 rfl (hbx.drop 5) rfl) ?_;refine O.op (.p rfl) (.len rfl underlying31 rfl)<|O.op (.p rfl) (.leq rfl rfl)<|O.sT 34 rfl zL ?_;refine O.q 1 rfl<|O.op (.g rfl rfl) (.fieldAddr fld163x0 rfl)<|O.op (.g rfl rfl) (.fieldAddr fld74x4 rfl)<|O.op (.g rfl rfl) (.loadAt flat4 rfl (hbx.drop 4) rfl) ?_;refine O.slot 38 (v' :=.bool true) rfl (by rw [e7]) ?_;refine O.op (.g rfl rfl) ((by first|exact .notD rfl|exact .not rfl)) ?_;refine O.sF 39 rfl (by rfl) ?_;refine O.q 1 rfl<|O.op (.g rfl rfl) (.fieldAddr fld163x0 rfl)<|O.op (.g rfl rfl) (.fieldAddr fld74x5 rfl)<|O.op (.g rfl rfl) (.loadAt flat31 rfl (hbx.drop 5) rfl) ?_;refine O.op (.g rfl rfl) (.len rfl underlying31 rfl)<|O.op (.g rfl rfl) (.eql rfl rfl)<|O.q 3 rfl<|O.nil ?_;exact S.rt results122 rfl hR ⟨by rw [decide_eq_true e6,e7];simp,rfl⟩
def txtRows (x:RecT):List (List UInt8):=[[1],bytesOf x.1,be x.2.1,be x.2.2.1,be x.2.2.2.1.length]
def dotRows (l:List DotT):List (List UInt8):=(l.map fun d=>[be d.1,be d.2.1]).flatten
theorem dotRows_snoc (l:List DotT) (d:DotT):dotRows (l++[d])=dotRows l++[be d.1,be d.2.1]:=by simp [dotRows]
theorem dotRows_flat (l:List DotT):(dotRows l).flatten=dotsB l:=by
 induction l with
 |nil=>rfl
 |cons d l ih=>rw [dotsB_cons,← ih];simp [dotRows]
theorem txt_all (x:RecT):(txtRows x++dotRows x.2.2.2.1++[[goneB x.2.2.2.2.1],bytesOf x.2.2.2.2.2.1]).flatten=recText x:=by
 simp [txtRows,recText,dotRows_flat]
theorem wtext_c {r:Fr} {cs:List Value} {x:RecT} (h:RecRp.rel r cs x) (hs:shaped x=true):Con prog 311 #[.agg cs.toArray] r [] (Ret fun v η=>∃ a c,v=.slice a (recText x).length c∧η=[OwnP Rp.u8 5 (.slice a (recText x).length c) (recText x)]):=by
 have hb:=shaped_iff.1 hs;have hl:=recText_le hs;have hdl:=rises_len hb.2.2.2.1;obtain ⟨v3,v5,v6,rfl,k0,k1,k2,k3,k5,k6⟩:=RecRp.open h;refine Con.of (n:=60) _ rfl func311 rfl rfl rfl fun g hg R hR=>?_;have h:=h.mono hg;have k3:=k3.mono hg;have k5:=k5.mono hg;have k6:=k6.mono hg;obtain ⟨a3,c3,rfl⟩:=k3.shape;obtain ⟨a5,c5,rfl⟩:=k5.shape;obtain ⟨a6,c6,rfl⟩:=k6.shape;refine S.seq<|S.region rfl<|O.opE (.p rfl) (.box (cs:=[_,_,_,_,_,_,_]) rfl rfl) ?_;rintro _ _ ⟨b1,rfl,rfl⟩;refine O.q 1 rfl<|O.nil<|S.seq<|S.region rfl<|O.opE (.p rfl) (.litP (T:=Rp.u8) (ys:=[0]) underlying31 elem5 zF rfl rfl ⟨rfl,trivial⟩ zF) ?_;rintro _ _ ⟨a7,c7,rfl,rfl⟩;refine O.q 1 rfl<|O.nil<|S.seq<|S.seq<|S.cut2 (fun (q:Option Addr × Nat)=>True) (fun (q:Option Addr × Nat)=>[(3,.slice q.1 1 q.2)]) [(1,_)] (fun (q:Option Addr × Nat)=>[obj b1 163 [.string (str x.1),.int .i64 x.2.1,.int .i64 x.2.2.1,.slice a3 x.2.2.2.1.length c3,.bool x.2.2.2.2.1,.slice a5 x.2.2.2.2.2.1.length c5,.slice a6 x.2.2.2.2.2.2.1.length c6],OwnP Rp.u8 5 (.slice q.1 1 q.2) [goneB x.2.2.2.2.1]]) (.cons rfl (.nil)) (fun key=>?_) (fun q hx=>?_)
 ·have hm1:=meltRefl (g:=g)
  refine S.region rfl<|O.op (.p rfl) (.fieldObj fld163x0 rfl)<|O.op (.p rfl) (.fieldObj fld74x4 rfl)<|O.op (.p rfl) (.lo flat4) ?_;refine O.nil ?_
  first|refine S.condD rfl (fun h10=>?_) (fun h10=>?_)|refine S.condB rfl (fun h10=>?_) (fun h10=>?_)
  ·refine S.region rfl<|O.q 1 rfl<|O.opE (.p rfl) (.idxOwn (T:=Rp.u8) underlying31 size5 rfl rfl (show _=(((0):Nat):Int) by omega) zC zR) ?_
   rintro _ _ ⟨p12,rfl,hp12,rfl⟩;refine O.opU rfl (.storeOwn size5 rfl hp12 rfl zC zR (show _=_ by rfl:Rp.rel _ _ _ ((1:UInt8)))) ?_;refine O.nil<|S.ownIs (T:=Rp.u8) (xs' :=[goneB x.2.2.2.2.1]) zC rfl (by rw [h10];rfl) ?_;refine S.pk ?_ (S.weaken ?_ (key ((a7,c7)) (by trivial)))
   ·repeat (first|exact zpa|exact zpn|(apply zpc;focus (repeat (first|exact zh|apply zt)))|apply zps)
   repeat (first|exact Sub.nil|refine Sub.cons rfl ?_)
  ·refine S.skip<|S.ownIs (T:=Rp.u8) (xs' :=[goneB x.2.2.2.2.1]) zC rfl (by rw [h10];rfl) ?_
   refine S.pk ?_ (S.weaken ?_ (key ((a7,c7)) (by trivial)))
   ·repeat (first|exact zpa|exact zpn|(apply zpc;focus (repeat (first|exact zh|apply zt)))|apply zps)
   repeat (first|exact Sub.nil|refine Sub.cons rfl ?_)
 ·refine S.seq<|S.frzO zC fun g hs hm hbx=>?_
  replace hg:=Fr.sub_trans hg hs;replace hR:=melted hR hm
  try replace h:=h.mono hs
  try replace k3:=k3.mono hs
  try replace k5:=k5.mono hs
  try replace k6:=k6.mono hs
  clear hs hm;refine S.regionJ (L:=[1,2,3,6,7,8,10,11,12,14,15,16,17,0,4,5,9,13,18,19,20]) (fun (s:(Option Addr × Nat) × List Value)=>[(4,.slice s.1.1 s.2.length s.1.2)]) [(1,_),(3,_)] (fun (s:(Option Addr × Nat) × List Value)=>[RowsP Rp.u8 5 s.2 (txtRows x),OwnP Rp.val 31 (.slice s.1.1 s.2.length s.1.2) s.2,OwnP Rp.u8 5 (.slice q.1 1 q.2) [goneB x.2.2.2.2.1]]) (.cons rfl (.cons rfl (.nil))) F.mixed zB (fun kk key=>?_) (fun s=>?_)
  ·refine .quiet (.p rfl) rfl (fun _=>.fieldAddr fld163x0 rfl)<|.quiet (.p rfl) rfl (fun _=>.fieldAddr fld74x0 rfl)<|.quiet (.p rfl) rfl (fun _=>.loadAt flat9 rfl hbx rfl) ?_
   refine .quiet (.p rfl) rfl (fun _=>.fieldAddr fld163x0 rfl)<|.quiet (.p rfl) rfl (fun _=>.fieldAddr fld74x1 rfl)<|.quiet (.p rfl) rfl (fun _=>.loadAt flat3 rfl (hbx.drop 1) rfl) ?_;refine .quiet (.p rfl) rfl (fun _=>.fieldAddr fld163x0 rfl)<|.quiet (.p rfl) rfl (fun _=>.fieldAddr fld74x2 rfl)<|.quiet (.p rfl) rfl (fun _=>.loadAt flat3 rfl (hbx.drop 2) rfl) ?_;refine .quiet (.p rfl) rfl (fun _=>.fieldAddr fld163x0 rfl)<|.quiet (.p rfl) rfl (fun _=>.fieldAddr fld74x3 rfl)<|.quiet (.p rfl) rfl (fun _=>.loadAt flat72 rfl (hbx.drop 3) rfl) ?_;refine .quiet (.p rfl) rfl (fun _=>.len rfl underlying72 rfl)<|OD.alt2 0 4 [4,5,9,13,18,19,20] [0,5,9,13,18,19,20] zB rfl rfl ?_ ?_
   ·refine ODt.litP (T:=Rp.u8) (ys:=[1]) (.p rfl) zB underlying31 elem5 zF rfl rfl ⟨rfl,trivial⟩ zF (fun a13 c13=>?_)
    refine OD.strBytesO (.p rfl) zB underlying9 underlying31 underlying5 rfl (by first|assumption|omega|(simp;done)|(simp;omega)) (fun a17 c17=>?_);refine OD.callB (.p rfl) zB rfl zB rfl rfl (bs:=[OwnP Rp.u8 5 (.slice a17 x.1.length c17) x.1]) zM (fun m hm hd=>wBytes_c (hm.arr.right hd) zE) ?_;rintro _ _ ⟨a18,c18,rfl,rfl⟩
    try simp only [zx1,zx2,zx3]
    refine OD.call0 (.p rfl) zB rfl zB rfl rfl (wNumber_c _) ?_;rintro _ _ ⟨a22,c22,rfl,rfl⟩
    try simp only [zx1,zx2,zx3]
    refine OD.call0 (.p rfl) zB rfl zB rfl rfl (wNumber_c _) ?_;rintro _ _ ⟨a26,c26,rfl,rfl⟩
    try simp only [zx1,zx2,zx3]
    refine OD.call0 (.p rfl) zB rfl zB rfl rfl (wNumber_c _) ?_;rintro _ _ ⟨a31,c31,rfl,rfl⟩
    try simp only [zx1,zx2,zx3]
    refine OD.litP (T:=Rp.val) (ys:=[_,_,_,_,_]) (.p rfl) zB underlying39 elem31 zF rfl rfl ⟨⟨rfl,rfl⟩,⟨rfl,rfl⟩,⟨rfl,rfl⟩,⟨rfl,rfl⟩,⟨rfl,rfl⟩,trivial⟩ zF (fun a32 c32=>?_);refine OD.q 1 rfl<|ODx.nil<|S.eachOf (OwnP Rp.u8 5) (bs:=[.slice a13 1 c13,.slice a18 (bytesOf x.1).length c18,.slice a22 8 c22,.slice a26 8 c26,.slice a31 8 c31]) (ys:=txtRows x) zM rfl ?_;refine S.pk ?_ (S.weaken (Sub.app (.cons rfl (.nil)) (.cons rfl (.cons rfl (.nil)))) (key ((a32,c32),[.slice a13 1 c13,.slice a18 (bytesOf x.1).length c18,.slice a22 8 c22,.slice a26 8 c26,.slice a31 8 c31])))
    try dsimp only
    repeat (first|exact zpa|exact zpn|(apply zpc;focus (repeat (first|exact zh|apply zt)))|apply zps)
   ·refine ODt.strBytesO (.p rfl) zB underlying9 underlying31 underlying5 rfl (by first|assumption|omega|(simp;done)|(simp;omega)) (fun a17 c17=>?_)
    refine OD.alt2 0 5 [5,9,13,18,19,20] [0,9,13,18,19,20] zB rfl rfl ?_ ?_
    ·refine ODt.litP (T:=Rp.u8) (ys:=[1]) (.p rfl) zB underlying31 elem5 zF rfl rfl ⟨rfl,trivial⟩ zF (fun a13 c13=>?_)
     refine OD.callB (.p rfl) zB rfl zB rfl rfl (bs:=[OwnP Rp.u8 5 (.slice a17 x.1.length c17) x.1]) zM (fun m hm hd=>wBytes_c (hm.arr.right hd) zE) ?_;rintro _ _ ⟨a18,c18,rfl,rfl⟩
     try simp only [zx1,zx2,zx3]
     refine OD.call0 (.p rfl) zB rfl zB rfl rfl (wNumber_c _) ?_;rintro _ _ ⟨a22,c22,rfl,rfl⟩
     try simp only [zx1,zx2,zx3]
     refine OD.call0 (.p rfl) zB rfl zB rfl rfl (wNumber_c _) ?_;rintro _ _ ⟨a26,c26,rfl,rfl⟩
     try simp only [zx1,zx2,zx3]
     refine OD.call0 (.p rfl) zB rfl zB rfl rfl (wNumber_c _) ?_;rintro _ _ ⟨a31,c31,rfl,rfl⟩
     try simp only [zx1,zx2,zx3]
     refine OD.litP (T:=Rp.val) (ys:=[_,_,_,_,_]) (.p rfl) zB underlying39 elem31 zF rfl rfl ⟨⟨rfl,rfl⟩,⟨rfl,rfl⟩,⟨rfl,rfl⟩,⟨rfl,rfl⟩,⟨rfl,rfl⟩,trivial⟩ zF (fun a32 c32=>?_);refine OD.q 1 rfl<|ODx.nil<|S.eachOf (OwnP Rp.u8 5) (bs:=[.slice a13 1 c13,.slice a18 (bytesOf x.1).length c18,.slice a22 8 c22,.slice a26 8 c26,.slice a31 8 c31]) (ys:=txtRows x) zM rfl ?_;refine S.pk ?_ (S.weaken (Sub.app (.cons rfl (.nil)) (.cons rfl (.cons rfl (.nil)))) (key ((a32,c32),[.slice a13 1 c13,.slice a18 (bytesOf x.1).length c18,.slice a22 8 c22,.slice a26 8 c26,.slice a31 8 c31])))
     try dsimp only
     repeat (first|exact zpa|exact zpn|(apply zpc;focus (repeat (first|exact zh|apply zt)))|apply zps)
    ·refine ODt.callB (.p rfl) zB rfl zB rfl rfl (bs:=[OwnP Rp.u8 5 (.slice a17 x.1.length c17) x.1]) zM (fun m hm hd=>wBytes_c (hm.arr.right hd) zE) ?_
     rintro _ _ ⟨a18,c18,rfl,rfl⟩
     try simp only [zx1,zx2,zx3]
     refine OD.alt2 0 9 [9,13,18,19,20] [0,13,18,19,20] zB rfl rfl ?_ ?_
     ·refine ODt.litP (T:=Rp.u8) (ys:=[1]) (.p rfl) zB underlying31 elem5 zF rfl rfl ⟨rfl,trivial⟩ zF (fun a13 c13=>?_)
      refine OD.call0 (.p rfl) zB rfl zB rfl rfl (wNumber_c _) ?_;rintro _ _ ⟨a22,c22,rfl,rfl⟩
      try simp only [zx1,zx2,zx3]
      refine OD.call0 (.p rfl) zB rfl zB rfl rfl (wNumber_c _) ?_;rintro _ _ ⟨a26,c26,rfl,rfl⟩
      try simp only [zx1,zx2,zx3]
      refine OD.call0 (.p rfl) zB rfl zB rfl rfl (wNumber_c _) ?_;rintro _ _ ⟨a31,c31,rfl,rfl⟩
      try simp only [zx1,zx2,zx3]
      refine OD.litP (T:=Rp.val) (ys:=[_,_,_,_,_]) (.p rfl) zB underlying39 elem31 zF rfl rfl ⟨⟨rfl,rfl⟩,⟨rfl,rfl⟩,⟨rfl,rfl⟩,⟨rfl,rfl⟩,⟨rfl,rfl⟩,trivial⟩ zF (fun a32 c32=>?_);refine OD.q 1 rfl<|ODx.nil<|S.eachOf (OwnP Rp.u8 5) (bs:=[.slice a13 1 c13,.slice a18 (bytesOf x.1).length c18,.slice a22 8 c22,.slice a26 8 c26,.slice a31 8 c31]) (ys:=txtRows x) zM rfl ?_;refine S.pk ?_ (S.weaken (Sub.app (.cons rfl (.nil)) (.cons rfl (.cons rfl (.nil)))) (key ((a32,c32),[.slice a13 1 c13,.slice a18 (bytesOf x.1).length c18,.slice a22 8 c22,.slice a26 8 c26,.slice a31 8 c31])))
      try dsimp only
      repeat (first|exact zpa|exact zpn|(apply zpc;focus (repeat (first|exact zh|apply zt)))|apply zps)
     ·refine ODt.call0 (.p rfl) zB rfl zB rfl rfl (wNumber_c _) ?_
      rintro _ _ ⟨a22,c22,rfl,rfl⟩
      try simp only [zx1,zx2,zx3]
      refine OD.alt2 0 13 [13,18,19,20] [0,18,19,20] zB rfl rfl ?_ ?_
      ·refine ODt.litP (T:=Rp.u8) (ys:=[1]) (.p rfl) zB underlying31 elem5 zF rfl rfl ⟨rfl,trivial⟩ zF (fun a13 c13=>?_)
       refine OD.call0 (.p rfl) zB rfl zB rfl rfl (wNumber_c _) ?_;rintro _ _ ⟨a26,c26,rfl,rfl⟩
       try simp only [zx1,zx2,zx3]
       refine OD.call0 (.p rfl) zB rfl zB rfl rfl (wNumber_c _) ?_;rintro _ _ ⟨a31,c31,rfl,rfl⟩
       try simp only [zx1,zx2,zx3]
       refine OD.litP (T:=Rp.val) (ys:=[_,_,_,_,_]) (.p rfl) zB underlying39 elem31 zF rfl rfl ⟨⟨rfl,rfl⟩,⟨rfl,rfl⟩,⟨rfl,rfl⟩,⟨rfl,rfl⟩,⟨rfl,rfl⟩,trivial⟩ zF (fun a32 c32=>?_);refine OD.q 1 rfl<|ODx.nil<|S.eachOf (OwnP Rp.u8 5) (bs:=[.slice a13 1 c13,.slice a18 (bytesOf x.1).length c18,.slice a22 8 c22,.slice a26 8 c26,.slice a31 8 c31]) (ys:=txtRows x) zM rfl ?_;refine S.pk ?_ (S.weaken (Sub.app (.cons rfl (.nil)) (.cons rfl (.cons rfl (.nil)))) (key ((a32,c32),[.slice a13 1 c13,.slice a18 (bytesOf x.1).length c18,.slice a22 8 c22,.slice a26 8 c26,.slice a31 8 c31])))
       try dsimp only
       repeat (first|exact zpa|exact zpn|(apply zpc;focus (repeat (first|exact zh|apply zt)))|apply zps)
      ·refine ODt.call0 (.p rfl) zB rfl zB rfl rfl (wNumber_c _) ?_
       rintro _ _ ⟨a26,c26,rfl,rfl⟩
       try simp only [zx1,zx2,zx3]
       refine OD.alt2 0 18 [18,19,20] [0,19,20] zB rfl rfl ?_ ?_
       ·refine ODt.litP (T:=Rp.u8) (ys:=[1]) (.p rfl) zB underlying31 elem5 zF rfl rfl ⟨rfl,trivial⟩ zF (fun a13 c13=>?_)
        refine OD.call0 (.p rfl) zB rfl zB rfl rfl (wNumber_c _) ?_;rintro _ _ ⟨a31,c31,rfl,rfl⟩
        try simp only [zx1,zx2,zx3]
        refine OD.litP (T:=Rp.val) (ys:=[_,_,_,_,_]) (.p rfl) zB underlying39 elem31 zF rfl rfl ⟨⟨rfl,rfl⟩,⟨rfl,rfl⟩,⟨rfl,rfl⟩,⟨rfl,rfl⟩,⟨rfl,rfl⟩,trivial⟩ zF (fun a32 c32=>?_);refine OD.q 1 rfl<|ODx.nil<|S.eachOf (OwnP Rp.u8 5) (bs:=[.slice a13 1 c13,.slice a18 (bytesOf x.1).length c18,.slice a22 8 c22,.slice a26 8 c26,.slice a31 8 c31]) (ys:=txtRows x) zM rfl ?_;refine S.pk ?_ (S.weaken (Sub.app (.cons rfl (.nil)) (.cons rfl (.cons rfl (.nil)))) (key ((a32,c32),[.slice a13 1 c13,.slice a18 (bytesOf x.1).length c18,.slice a22 8 c22,.slice a26 8 c26,.slice a31 8 c31])))
        try dsimp only
        repeat (first|exact zpa|exact zpn|(apply zpc;focus (repeat (first|exact zh|apply zt)))|apply zps)
       ·refine ODt.call0 (.p rfl) zB rfl zB rfl rfl (wNumber_c _) ?_
        rintro _ _ ⟨a31,c31,rfl,rfl⟩
        try simp only [zx1,zx2,zx3]
        refine OD.litP (T:=Rp.u8) (ys:=[1]) (.p rfl) zB underlying31 elem5 zF rfl rfl ⟨rfl,trivial⟩ zF (fun a13 c13=>?_);refine OD.litP (T:=Rp.val) (ys:=[_,_,_,_,_]) (.p rfl) zB underlying39 elem31 zF rfl rfl ⟨⟨rfl,rfl⟩,⟨rfl,rfl⟩,⟨rfl,rfl⟩,⟨rfl,rfl⟩,⟨rfl,rfl⟩,trivial⟩ zF (fun a32 c32=>?_);refine OD.q 1 rfl<|ODx.nil<|S.eachOf (OwnP Rp.u8 5) (bs:=[.slice a13 1 c13,.slice a18 (bytesOf x.1).length c18,.slice a22 8 c22,.slice a26 8 c26,.slice a31 8 c31]) (ys:=txtRows x) zM rfl ?_;refine S.pk ?_ (S.weaken (Sub.app (.cons rfl (.nil)) (.cons rfl (.cons rfl (.nil)))) (key ((a32,c32),[.slice a13 1 c13,.slice a18 (bytesOf x.1).length c18,.slice a22 8 c22,.slice a26 8 c26,.slice a31 8 c31])))
        try dsimp only
        repeat (first|exact zpa|exact zpn|(apply zpc;focus (repeat (first|exact zh|apply zt)))|apply zps)
  refine S.factS (B:=RowsP Rp.u8 5 s.2 (txtRows x)) zC (fun _ z=>EachP.len z) fun hs5=>?_;refine S.seq<|S.seq<|S.region rfl<|O.op (.p rfl) (.fieldAddr fld163x0 rfl)<|O.op (.p rfl) (.fieldAddr fld74x3 rfl)<|O.op (.p rfl) (.loadAt flat72 rfl (hbx.drop 3) rfl) ?_;refine O.op (.p rfl) (.len rfl underlying72 rfl)<|O.q 1 rfl<|O.nil<|S.block<|S.loopK2 (ι:=Nat) (κ:=(Option Addr × Nat) × List Value) (fun i p=>i≤x.2.2.2.1.length∧p.2.length=5+2*i) (fun i p=>[(37,.int .i64 (i:Int)),(4,.slice p.1.1 p.2.length p.1.2)]) [(1,_),(3,_),(35,_),(36,_)] (fun i p=>[RowsP Rp.u8 5 p.2 (txtRows x++dotRows (x.2.2.2.1.take i)),OwnP Rp.val 31 (.slice p.1.1 p.2.length p.1.2) p.2,OwnP Rp.u8 5 (.slice q.1 1 q.2) [goneB x.2.2.2.2.1]]) (fun i p=>x.2.2.2.1.length - i) (0) (s) (by exact ⟨by simp,hs5⟩) (.cons rfl (.cons rfl (.nil))) (.cons rfl (.cons rfl (.cons rfl (.cons rfl (.nil))))) rfl fun i p hx ih=>?_;have hm1:=meltRefl (g:=g);obtain ⟨hx1,hx2⟩:=hx;refine S.seq<|S.region rfl<|O.op (.p rfl) (.lss rfl rfl)<|O.nil (S.seq ?_)
  first|refine S.condD rfl (fun h38=>?_) (fun h38=>?_)|refine S.condB rfl (fun h38=>?_) (fun h38=>?_)
  ·have hi:i<x.2.2.2.1.length:=by omega
   have hrow:txtRows x++dotRows (x.2.2.2.1.take i)++[be x.2.2.2.1[i].1]++[be x.2.2.2.1[i].2.1]=txtRows x++dotRows (x.2.2.2.1.take (i+1)):=by rw [List.take_succ_eq_append_getElem hi,dotRows_snoc];simp
   refine S.skip<|S.seq<|S.block<|S.seq<|S.region rfl<|O.ia (.p rfl) underlying72 size166 rfl rfl rfl (by first|assumption|exact Arr.mono hg zD|exact Arr.left zD|exact Arr.left (Arr.mono hg zD)) (h:=fun p39 cs39 hp39 hr39=>?_);obtain ⟨rfl,hi39,hj39⟩:=DotRp.open hr39;refine O.op (.p rfl) (.loadAgg isAgg166 zB rfl hp39) ?_;refine O.opE (.p rfl) (.alloc (cs:=[.int .i64 0,.int .i64 0]) zeroValue166 rfl) ?_;rintro _ _ ⟨b6,rfl,rfl⟩;refine O.opU rfl (.storeObj zB rfl rfl rfl rfl zC zH) ?_;refine O.nil<|S.frzO zC fun g hs hm hd6=>?_;replace hg:=Fr.sub_trans hg hs;replace hR:=melted hR hm
   try replace h:=h.mono hs
   try replace k3:=k3.mono hs
   try replace k5:=k5.mono hs
   try replace k6:=k6.mono hs
   try replace hbx:=hbx.mono hs
   try replace hp39:=hp39.mono hs
   try replace hr39:=hr39.mono hs
   replace hm1:=meltTrans hm1 hm;clear hs hm;refine S.regionD (L:=[0,1,2,4,5,3,6,7,8,9]) F.mixed zB ?_;refine OD.q 1 rfl<|.quiet (.p rfl) rfl (fun _=>.fieldAddr fld166x0 rfl)<|.quiet (.p rfl) rfl (fun _=>.loadAt flat3 rfl hd6 rfl) ?_;refine .quiet (.p rfl) rfl (fun _=>.fieldAddr fld166x1 rfl)<|.quiet (.p rfl) rfl (fun _=>.loadAt flat3 rfl (hd6.drop 1) rfl) ?_;refine OD.call0 (.p rfl) zB rfl zB rfl rfl (wNumber_c _) ?_;rintro _ _ ⟨a44,c44,rfl,rfl⟩
   try simp only [zx1,zx2,zx3]
   refine OD.call0 (.p rfl) zB rfl zB rfl rfl (wNumber_c _) ?_;rintro _ _ ⟨a47,c47,rfl,rfl⟩
   try simp only [zx1,zx2,zx3]
   refine OD.litP (T:=Rp.val) (ys:=[_,_]) (.p rfl) zB underlying39 elem31 zF rfl rfl ⟨⟨rfl,rfl⟩,⟨rfl,rfl⟩,trivial⟩ zF (fun a48 c48=>?_);refine OD.appendO (.p rfl) zB (T:=Rp.val) underlying39 elem31 zF rfl rfl zC zC zI zI (fun a49 c49=>?_);refine OD.q 1 rfl<|ODx.nil<|S.inBlock<|S.region rfl<|O.op (.p rfl) (.add rfl rfl (IntWalk.i64_in _ zE))<|O.q 1 rfl<|O.nil<|S.each (A:=OwnP Rp.u8 5) (bs:=p.2) (b:=.slice a44 8 c44) (a:=be x.2.2.2.1[i].1) zC zC ?_;refine S.each (A:=OwnP Rp.u8 5) (bs:=p.2++[.slice a44 8 c44]) (b:=.slice a47 8 c47) (a:=be x.2.2.2.1[i].2.1) zC zC ?_;rw [hrow,List.append_assoc,← List.length_append];exact S.melt hm1 (S.pw (ih (i+1) (((a49,c49),p.2++[.slice a44 8 c44,.slice a47 8 c47])) (by exact ⟨by omega,by simp;omega⟩) zE))
  ·clear ih
   have hi:i=x.2.2.2.1.length:=by omega
   subst hi;rw [List.take_length];have hrow:txtRows x++dotRows x.2.2.2.1++[[goneB x.2.2.2.2.1]]++[bytesOf x.2.2.2.2.2.1]=txtRows x++dotRows x.2.2.2.1++[[goneB x.2.2.2.2.1],bytesOf x.2.2.2.2.2.1]:=by simp
   have hfl:=txt_all x;refine S.exit rfl<|S.seq<|S.region rfl<|O.q 2 rfl<|O.op (.p rfl) (.fieldAddr fld163x0 rfl)<|O.op (.p rfl) (.fieldAddr fld74x5 rfl)<|O.op (.p rfl) (.loadAt flat31 rfl (hbx.drop 5) rfl) ?_;refine O.call0 (.p rfl) rfl zB rfl rfl (wBytes_c (by first|assumption|exact Arr.mono hg zD|exact Arr.left zD|exact Arr.left (Arr.mono hg zD)) zI) ?_;rintro _ _ ⟨a56,c56,rfl,rfl⟩
   try simp only [zx1,zx2,zx3]
   refine O.opE (.p rfl) (.litP (T:=Rp.val) (ys:=[_,_]) underlying39 elem31 zF rfl rfl ⟨⟨rfl,rfl⟩,⟨rfl,rfl⟩,trivial⟩ zF) ?_;rintro _ _ ⟨a57,c57,rfl,rfl⟩;refine O.opE (.p rfl) (.appendO (T:=Rp.val) underlying39 elem31 zF rfl rfl zC zC zI zI) ?_;rintro _ _ ⟨a58,c58,rfl,rfl⟩;refine O.each (A:=OwnP Rp.u8 5) (bs:=p.2) (b:=.slice q.1 1 q.2) (a:=[goneB x.2.2.2.2.1]) zC zC ?_;refine O.each (A:=OwnP Rp.u8 5) (bs:=p.2++[.slice q.1 1 q.2]) (b:=.slice a56 (bytesOf x.2.2.2.2.2.1).length c56) (a:=bytesOf x.2.2.2.2.2.1) zC zC ?_;rw [hrow,List.append_assoc];refine O.frzR zC zC fun g hs hm hall=>?_;replace hg:=Fr.sub_trans hg hs;replace hR:=melted hR hm
   try replace h:=h.mono hs
   try replace k3:=k3.mono hs
   try replace k5:=k5.mono hs
   try replace k6:=k6.mono hs
   try replace hbx:=hbx.mono hs
   replace hm1:=meltTrans hm1 hm;clear hs hm;refine O.call0 (.p rfl) rfl zB rfl rfl ((wJoin_c hall (by rw [hfl];omega))) ?_;rintro _ _ ⟨a59,c59,rfl,rfl⟩
   try simp only [zx1,zx2,zx3]
   refine O.q 1 rfl<|O.nil ?_;rw [hfl];exact S.rt results311 rfl hR ⟨a59,c59,rfl,rfl⟩
theorem rRight_c {r:Fr} {cs:List Value} {x:RecT} (h:RecRp.rel r cs x):Con prog 277 #[.agg cs.toArray] r [] (Ret fun v η=>v=.bool (recOk x)∧η=[]):=by
 obtain ⟨xa3,xa5,xa6,xc3,xc5,xc6,rfl,k0,k1,k2,k3,k5,k6⟩:=RecRp.sh h;refine Con.of (n:=12) _ rfl func277 rfl rfl rfl fun g hg R hR=>?_;have h:=h.mono hg;have k6:=k6.mono hg
 cases e:shaped x with
 |false =>
  refine S.seq<|S.region rfl<|O.opE (.p rfl) (.box (cs:=[_,_,_,_,_,_,_]) rfl rfl) ?_;rintro _ _ ⟨b1,rfl,rfl⟩;refine O.q 1 rfl<|O.nil<|S.seq<|S.region rfl<|O.op (.p rfl) (.loA (news:=[_,_,_,_,_,_,_]) isAgg74) ?_;refine O.op (.p rfl) (.build (cs:=[_,_,_,_,_,_,_]) underlying163 rfl rfl rfl rfl rfl)<|O.call0 (.p rfl) rfl zB rfl rfl (wshaped_c h) ?_;rintro _ _ ⟨rfl,rfl⟩
  try simp only [zx1,zx2,zx3]
  refine O.sF 5 rfl (by exact e) ?_;refine O.q 7 rfl<|O.nil ?_;exact S.rt results277 rfl hR ⟨by simp [recOk,e],rfl⟩
 |true =>
  refine S.seq<|S.region rfl<|O.opE (.p rfl) (.box (cs:=[_,_,_,_,_,_,_]) rfl rfl) ?_;rintro _ _ ⟨b1,rfl,rfl⟩;refine O.q 1 rfl<|O.nil<|S.seq<|S.region rfl<|O.op (.p rfl) (.loA (news:=[_,_,_,_,_,_,_]) isAgg74) ?_;refine O.op (.p rfl) (.build (cs:=[_,_,_,_,_,_,_]) underlying163 rfl rfl rfl rfl rfl)<|O.call0 (.p rfl) rfl zB rfl rfl (wshaped_c h) ?_;rintro _ _ ⟨rfl,rfl⟩
  try simp only [zx1,zx2,zx3]
  refine O.sT 5 rfl (by exact e) ?_;refine O.q 1 rfl<|O.op (.g rfl rfl) (.fieldObj fld74x6 rfl)<|O.op (.g rfl rfl) (.lo flat31) ?_;refine O.op (.g rfl rfl) (.len rfl underlying31 rfl)<|O.op (.g rfl rfl) (.eql rfl rfl)<|O.q 2 rfl<|O.nil ?_;exact S.rt results277 rfl hR ⟨by simp [recOk,e];omega,rfl⟩
theorem rText_c {r:Fr} {cs:List Value} {x:RecT} (h:RecRp.rel r cs x) (hs:shaped x=true):Con prog 278 #[.agg cs.toArray] r [] (Ret fun v η=>∃ a c,v=.slice a (recText x).length c∧η=[OwnP Rp.u8 5 (.slice a (recText x).length c) (recText x)]):=by
 obtain ⟨xa3,xa5,xa6,xc3,xc5,xc6,rfl,k0,k1,k2,k3,k5,k6⟩:=RecRp.sh h;refine Con.of (n:=11) _ rfl func278 rfl rfl rfl fun g hg R hR=>?_;have h:=h.mono hg;refine S.seq<|S.region rfl<|O.opE (.p rfl) (.box (cs:=[_,_,_,_,_,_,_]) rfl rfl) ?_;rintro _ _ ⟨b1,rfl,rfl⟩;refine O.q 1 rfl<|O.nil<|S.seq<|S.region rfl<|O.op (.p rfl) (.loA (news:=[_,_,_,_,_,_,_]) isAgg74) ?_;refine O.op (.p rfl) (.build (cs:=[_,_,_,_,_,_,_]) underlying163 rfl rfl rfl rfl rfl)<|O.opE (.p rfl) (.alloc (cs:=[.string ⟨#[]⟩,.int .i64 0,.int .i64 0,.slice none 0 0,.bool false,.slice none 0 0,.slice none 0 0]) zeroValue163 rfl) ?_;rintro _ _ ⟨b3,rfl,rfl⟩;refine O.opU rfl (.storeObj zB rfl rfl rfl rfl zC zH) ?_;refine O.nil<|S.seq<|S.seq<|S.region rfl<|O.op (.p rfl) (.loA (news:=[_,_,_,_,_,_,_]) isAgg163) ?_;refine O.call0 (.p rfl) rfl zB rfl rfl (wshaped_c h) ?_;rintro _ _ ⟨rfl,rfl⟩
 try simp only [zx1,zx2,zx3]
 refine O.sT 7 rfl (by exact hs) ?_;refine O.op (.p rfl) (.not rfl)<|O.nil<|S.condF rfl<|S.skip<|S.seq<|S.region rfl<|O.op (.p rfl) (.loA (news:=[_,_,_,_,_,_,_]) isAgg163) ?_;refine O.call0 (.p rfl) rfl zB rfl rfl (wtext_c (by first|assumption|exact Rp.rel.mono zD hg) zD) ?_;rintro _ _ ⟨a10,c10,rfl,rfl⟩
 try simp only [zx1,zx2,zx3]
 refine O.q 1 rfl<|O.nil ?_;exact S.rt results278 rfl hR ⟨a10,c10,rfl,rfl⟩
def recOut (x:RecT):List UInt8:=if recOk x then recB x else []
def recErr (x:RecT):Int:=if recOk x then 0 else 4
theorem rPut_c {r:Fr} {cs:List Value} {x:RecT} (h:RecRp.rel r cs x):Con prog 204 #[.agg cs.toArray] r [] (Ret fun v η=>∃ a c,v=.tuple #[.slice a (recOut x).length c,.int .i64 (recErr x)]∧η=[OwnP Rp.u8 5 (.slice a (recOut x).length c) (recOut x)]):=by
 obtain ⟨xa3,xa5,xa6,xc3,xc5,xc6,rfl,k0,k1,k2,k3,k5,k6⟩:=RecRp.sh h;refine Con.of (n:=13) _ rfl func204 rfl rfl rfl fun g hg R hR=>?_;have h:=h.mono hg;have k6:=k6.mono hg
 cases e:recOk x with
 |false =>
  have e1:recOut x=[]:=by simp [recOut,e]
  have e2:recErr x=4:=by simp [recErr,e]
  rw [e1,e2] at hR;refine S.seq<|S.region rfl<|O.opE (.p rfl) (.box (cs:=[_,_,_,_,_,_,_]) rfl rfl) ?_;rintro _ _ ⟨b1,rfl,rfl⟩;refine O.q 2 rfl<|O.nil<|S.seq<|S.seq<|S.region rfl<|O.op (.p rfl) (.loA (news:=[_,_,_,_,_,_,_]) isAgg74) ?_;refine O.call0 (.p rfl) rfl zB rfl rfl (rRight_c h) ?_;rintro _ _ ⟨rfl,rfl⟩
  try simp only [zx1,zx2,zx3]
  refine O.sF 5 rfl (by exact e) ?_;refine O.op (.p rfl) (.not rfl)<|O.nil<|S.condT rfl<|S.seq<|S.region rfl<|O.q 2 rfl<|O.nil<|S.addNil (T:=Rp.u8) (e:=5) ?_;refine S.ret2 results204 rfl rfl fun w hw=>Holds.end_ hR hw ?_;exact pk ⟨none,0,rfl,rfl⟩
 |true =>
  have e1:recOut x=recB x:=by simp [recOut,e]
  have e2:recErr x=0:=by simp [recErr,e]
  have hl:=recB_le e;obtain ⟨hs,hs2⟩:=recOk_iff.1 e;have hfl:[recText x,x.2.2.2.2.2.2.1].flatten=recB x:=by simp [recB]
  rw [e1,e2] at hR;refine S.seq<|S.region rfl<|O.opE (.p rfl) (.box (cs:=[_,_,_,_,_,_,_]) rfl rfl) ?_;rintro _ _ ⟨b1,rfl,rfl⟩;refine O.q 2 rfl<|O.nil<|S.seq<|S.seq<|S.region rfl<|O.op (.p rfl) (.loA (news:=[_,_,_,_,_,_,_]) isAgg74) ?_;refine O.call0 (.p rfl) rfl zB rfl rfl (rRight_c h) ?_;rintro _ _ ⟨rfl,rfl⟩
  try simp only [zx1,zx2,zx3]
  refine O.sT 5 rfl (by exact e) ?_;refine O.op (.p rfl) (.not rfl)<|O.nil<|S.condF rfl<|S.skip<|S.seq<|S.frzO zC fun g hs hm hbx=>?_;replace hg:=Fr.sub_trans hg hs;replace hR:=melted hR hm
  try replace h:=h.mono hs
  try replace k6:=k6.mono hs
  clear hs hm;refine S.regionD (L:=[0,2,3,1,4,5,6,7]) F.mixed zB ?_;refine .quiet (.p rfl) rfl (fun _=>.loadAgg isAgg74 zB rfl hbx) ?_;refine .quiet (.p rfl) rfl (fun _=>.fieldAddr fld74x6 rfl)<|.quiet (.p rfl) rfl (fun _=>.loadAt flat31 rfl (hbx.drop 6) rfl) ?_;refine OD.call0 (.p rfl) zB rfl zB rfl rfl (rText_c (by first|assumption|exact Rp.rel.mono zD hg) zD) ?_;rintro _ _ ⟨a8,c8,rfl,rfl⟩
  try simp only [zx1,zx2,zx3]
  refine OD.litP (T:=Rp.val) (ys:=[_,_]) (.p rfl) zB underlying39 elem31 zF rfl rfl ⟨⟨rfl,rfl⟩,⟨rfl,rfl⟩,trivial⟩ zF (fun a11 c11=>?_);refine OD.callB (.p rfl) zB rfl zB rfl rfl (bs:=[OwnP Rp.val 31 (.slice a11 2 c11) [.slice a8 (recText x).length c8,.slice xa6 x.2.2.2.2.2.2.1.length xc6],OwnP Rp.u8 5 (.slice a8 (recText x).length c8) (recText x)]) zM (fun m hm hd=>wJoin_c (xss:=[recText x,x.2.2.2.2.2.2.1]) ((hm.arr.right hd).rows ⟨hm.tail.arr.right hd,k6.left,trivial⟩) (by rw [hfl];omega)) ?_;rintro _ _ ⟨a12,c12,rfl,rfl⟩
  try simp only [zx1,zx2,zx3]
  refine OD.q 2 rfl<|ODx.nil ?_;rw [hfl];refine S.ret2 results204 rfl rfl fun w hw=>Holds.end_ hR hw ?_;exact pk ⟨a12,c12,rfl,rfl⟩
theorem rOver_c {r:Fr} {cs ds:List Value} {x y:RecT} (h:RecRp.rel r cs x) (h' :RecRp.rel r ds y):Con prog 48 #[.agg cs.toArray,.agg ds.toArray] r [] (Ret fun v η=>v=.bool (over x y)∧η=[]):=by
 obtain ⟨xa3,xa5,xa6,xc3,xc5,xc6,rfl,k0,k1,k2,k3,k5,k6⟩:=RecRp.sh h;obtain ⟨ya3,ya5,ya6,yc3,yc5,yc6,rfl,l0,l1,l2,l3,l5,l6⟩:=RecRp.sh h';refine Con.of (n:=31) _ rfl func48 rfl rfl rfl fun g hg R hR=>?_;have h:=h.mono hg;have h' :=h'.mono hg;have k3:=k3.mono hg;refine S.seq<|S.region rfl<|O.opE (.p rfl) (.box (cs:=[_,_,_,_,_,_,_]) rfl rfl) ?_;rintro _ _ ⟨b2,rfl,rfl⟩;refine O.opE (.p rfl) (.box (cs:=[_,_,_,_,_,_,_]) rfl rfl) ?_;rintro _ _ ⟨b3,rfl,rfl⟩;refine O.q 1 rfl<|O.nil<|S.seq<|S.frzO zC fun g hs hm hb3=>?_;replace hg:=Fr.sub_trans hg hs;replace hR:=melted hR hm
 try replace h:=h.mono hs
 try replace h' :=h'.mono hs
 try replace k3:=k3.mono hs
 clear hs hm;refine S.frzO zC fun g hs hm hb2=>?_;replace hg:=Fr.sub_trans hg hs;replace hR:=melted hR hm
 try replace h:=h.mono hs
 try replace h' :=h'.mono hs
 try replace k3:=k3.mono hs
 try replace hb3:=hb3.mono hs
 clear hs hm;refine S.regionD (L:=[0,1,2,3,4,5,6,7]) F.mixed zB ?_;refine .quiet (.p rfl) rfl (fun _=>.loadAgg isAgg74 zB rfl hb2) ?_;refine .quiet (.p rfl) rfl (fun _=>.build (cs:=[_,_,_,_,_,_,_]) underlying163 rfl rfl rfl rfl rfl)<|.quiet (.p rfl) rfl (fun _=>.loadAgg isAgg74 zB rfl hb3) ?_;refine .quiet (.p rfl) rfl (fun _=>.build (cs:=[_,_,_,_,_,_,_]) underlying163 rfl rfl rfl rfl rfl)<|.lazy rfl zB rfl fun b5=>?_;refine .lazy rfl zB rfl fun b6=>?_;refine OD.storeObj rfl zB zB rfl rfl rfl rfl zC zH ?_;refine OD.storeObj rfl zB zB rfl rfl rfl rfl zC zH ?_;refine ODx.nil<|S.seq<|S.objIs (b:=b5) (cs' :=[.string (str x.1),.int .i64 x.2.1,.int .i64 x.2.2.1,.slice xa3 x.2.2.2.1.length xc3,.bool x.2.2.2.2.1,.slice xa5 x.2.2.2.2.2.1.length xc5,.slice xa6 x.2.2.2.2.2.2.1.length xc6]) zC rfl ?_;refine S.objIs (b:=b6) (cs' :=[.string (str y.1),.int .i64 y.2.1,.int .i64 y.2.2.1,.slice ya3 y.2.2.2.1.length yc3,.bool y.2.2.2.2.1,.slice ya5 y.2.2.2.2.2.1.length yc5,.slice ya6 y.2.2.2.2.2.2.1.length yc6]) zC rfl ?_;refine S.frzO zC fun g hs hm hb5=>?_;replace hg:=Fr.sub_trans hg hs;replace hR:=melted hR hm
 try replace h:=h.mono hs
 try replace h' :=h'.mono hs
 try replace k3:=k3.mono hs
 try replace hb3:=hb3.mono hs
 try replace hb2:=hb2.mono hs
 clear hs hm;refine S.frzO zC fun g hs hm hb6=>?_;replace hg:=Fr.sub_trans hg hs;replace hR:=melted hR hm
 try replace h:=h.mono hs
 try replace h' :=h'.mono hs
 try replace k3:=k3.mono hs
 try replace hb3:=hb3.mono hs
 try replace hb2:=hb2.mono hs
 try replace hb5:=hb5.mono hs
 clear hs hm
 by_cases e1:x.1=y.1
 ·cases e2:shaped x with
  |false =>
   refine S.regionD (L:=[0,1,2,3,4,5,6,7,8,9,10,11,12,13,14,15,16,17,18,19,20]) F.mixed zB ?_;refine .quiet (.p rfl) rfl (fun _=>.fieldAddr fld74x0 rfl)<|.quiet (.p rfl) rfl (fun _=>.loadAt flat9 rfl hb2 rfl) ?_;refine .quiet (.p rfl) rfl (fun _=>.fieldAddr fld74x0 rfl)<|.quiet (.p rfl) rfl (fun _=>.loadAt flat9 rfl hb3 rfl) ?_;refine .quiet (.p rfl) rfl (fun _=>.eqlS rfl rfl)<|OD.sT 15 rfl (by simp [e1]) ?_;refine OD.q 1 rfl<|.quiet (.g rfl rfl) rfl (fun _=>.loadAgg isAgg163 zB rfl hb6) ?_;refine OD.call0 (.g rfl rfl) zB rfl zB rfl rfl (wshaped_c h) ?_;rintro _ _ ⟨rfl,rfl⟩
   try simp only [zx1,zx2,zx3]
   refine OD.sF 18 rfl (by exact e2) ?_;refine OD.q 13 rfl<|ODx.nil ?_;exact S.rt results48 rfl hR ⟨by simp [over,e2],rfl⟩
  |true =>
   cases e3:shaped y with
   |false =>
    refine S.regionD (L:=[0,1,2,3,4,5,6,7,8,9,10,11,12,13,14,15,16,17,18,19,20]) F.mixed zB ?_;refine .quiet (.p rfl) rfl (fun _=>.fieldAddr fld74x0 rfl)<|.quiet (.p rfl) rfl (fun _=>.loadAt flat9 rfl hb2 rfl) ?_;refine .quiet (.p rfl) rfl (fun _=>.fieldAddr fld74x0 rfl)<|.quiet (.p rfl) rfl (fun _=>.loadAt flat9 rfl hb3 rfl) ?_;refine .quiet (.p rfl) rfl (fun _=>.eqlS rfl rfl)<|OD.sT 15 rfl (by simp [e1]) ?_;refine OD.q 1 rfl<|.quiet (.g rfl rfl) rfl (fun _=>.loadAgg isAgg163 zB rfl hb6) ?_;refine OD.call0 (.g rfl rfl) zB rfl zB rfl rfl (wshaped_c h) ?_;rintro _ _ ⟨rfl,rfl⟩
    try simp only [zx1,zx2,zx3]
    refine OD.sT 18 rfl (by exact e2) ?_;refine OD.q 2 rfl<|.quiet (.g rfl rfl) rfl (fun _=>.loadAgg isAgg163 zB rfl hb5) ?_;refine OD.call0 (.g rfl rfl) zB rfl zB rfl rfl (wshaped_c h') ?_;rintro _ _ ⟨rfl,rfl⟩
    try simp only [zx1,zx2,zx3]
    refine OD.sF 22 rfl (by exact e3) ?_;refine OD.q 9 rfl<|ODx.nil ?_;exact S.rt results48 rfl hR ⟨by simp [over,e3],rfl⟩
   |true =>
    refine S.regionD (L:=[0,1,2,3,4,5,6,7,8,9,10,11,12,13,14,15,16,17,18,19,20]) F.mixed zB ?_;refine .quiet (.p rfl) rfl (fun _=>.fieldAddr fld74x0 rfl)<|.quiet (.p rfl) rfl (fun _=>.loadAt flat9 rfl hb2 rfl) ?_;refine .quiet (.p rfl) rfl (fun _=>.fieldAddr fld74x0 rfl)<|.quiet (.p rfl) rfl (fun _=>.loadAt flat9 rfl hb3 rfl) ?_;refine .quiet (.p rfl) rfl (fun _=>.eqlS rfl rfl)<|OD.sT 15 rfl (by simp [e1]) ?_;refine OD.q 1 rfl<|.quiet (.g rfl rfl) rfl (fun _=>.loadAgg isAgg163 zB rfl hb6) ?_;refine OD.call0 (.g rfl rfl) zB rfl zB rfl rfl (wshaped_c h) ?_;rintro _ _ ⟨rfl,rfl⟩
    try simp only [zx1,zx2,zx3]
    refine OD.sT 18 rfl (by exact e2) ?_;refine OD.q 2 rfl<|.quiet (.g rfl rfl) rfl (fun _=>.loadAgg isAgg163 zB rfl hb5) ?_;refine OD.call0 (.g rfl rfl) zB rfl zB rfl rfl (wshaped_c h') ?_;rintro _ _ ⟨rfl,rfl⟩
    try simp only [zx1,zx2,zx3]
    refine OD.sT 22 rfl (by exact e3) ?_;refine OD.q 2 rfl<|.quiet (.g rfl rfl) rfl (fun _=>.fieldAddr fld74x3 rfl)<|.quiet (.g rfl rfl) rfl (fun _=>.loadAt flat72 rfl (hb2.drop 3) rfl) ?_;refine .quiet (.g rfl rfl) rfl (fun _=>.loadAgg isAgg163 zB rfl hb5) ?_;refine OD.call0 (.g rfl rfl) zB rfl zB rfl rfl (wdot_c h') ?_;rintro _ _ ⟨rfl,rfl⟩
    try simp only [zx1,zx2,zx3]
    refine OD.call0 (.g rfl rfl) zB rfl zB rfl rfl (vHas_c (rDot y) rfl k3) ?_;rintro _ _ ⟨rfl,rfl⟩
    try simp only [zx1,zx2,zx3]
    refine OD.q 2 rfl<|ODx.nil ?_;exact S.rt results48 rfl hR ⟨by simp [over,e1,e2,e3],rfl⟩
 ·
  refine S.regionD (L:=[0,1,2,3,4,5,6,7,8,9,10,11,12,13,14,15,16,17,18,19,20]) F.mixed zB ?_;refine .quiet (.p rfl) rfl (fun _=>.fieldAddr fld74x0 rfl)<|.quiet (.p rfl) rfl (fun _=>.loadAt flat9 rfl hb2 rfl) ?_;refine .quiet (.p rfl) rfl (fun _=>.fieldAddr fld74x0 rfl)<|.quiet (.p rfl) rfl (fun _=>.loadAt flat9 rfl hb3 rfl) ?_;refine .quiet (.p rfl) rfl (fun _=>.eqlS rfl rfl)<|OD.sF 15 rfl (by simp [e1]) ?_;refine OD.q 16 rfl<|ODx.nil ?_;exact S.rt results48 rfl hR ⟨by simp [over,e1],rfl⟩
def shp:List PanicEntry:=[{ v:=.iface 32 (.int .i64 4),recovered:=false }]
theorem smust_c {r:Fr} (b:Bool):Con prog 130 #[.bool b] r [] (RetP (fun v η=>b=true∧v=.tuple #[]∧η=[]) (fun ch η=>b=false∧ch=shp∧η=[])):=by
 refine Con.of (n:=5) _ rfl func130 rfl rfl rfl fun g hg R hR=>?_;refine S.seq<|S.region rfl<|O.q 1 rfl<|O.op (.p rfl) ((by first|exact .notD rfl|exact .not rfl)) ?_;refine O.nil ?_
 first|refine S.condD rfl (fun h3=>?_) (fun h3=>?_)|refine S.condB rfl (fun h3=>?_) (fun h3=>?_)
 ·refine S.region rfl<|O.op (.p rfl) (.mkIface underlying32 rfl)<|O.panic rfl rfl (fun w hw=>?_)
  exact hR _ [] w ⟨by simpa using h3,rfl,rfl⟩ hw
 ·refine S.skip<|S.end0 results130 fun w hw=>hR _ _ w ?_ hw
  exact ⟨by simpa using h3,rfl,rfl⟩
theorem scompare_c {r:Fr} {cs ds:List Value} {x y:RecT} (h:ItRp.rel r cs x) (h' :ItRp.rel r ds y):Con prog 208 #[.agg cs.toArray,.agg ds.toArray] r [] (Ret fun v η=>v=.int .i64 (cmpR x y)∧η=[]):=by
 obtain ⟨xa3,xa5,xa6,xa7,xc3,xc5,xc6,xc7,rfl,_,_⟩:=ItRp.sh h;obtain ⟨ya3,ya5,ya6,ya7,yc3,yc5,yc6,yc7,rfl,_,_⟩:=ItRp.sh h';refine Con.of (n:=21) _ rfl func208 rfl rfl rfl fun g hg R hR=>?_;have hc1:=cmpZ_in x.2.1 y.2.1;have hc2:=cmpZ_in x.2.2.1 y.2.2.1;refine S.seq<|S.region rfl<|O.opE (.p rfl) (.box (cs:=[_,_,_,_,_,_,_,_]) rfl rfl) ?_;rintro _ _ ⟨b2,rfl,rfl⟩;refine O.opE (.p rfl) (.box (cs:=[_,_,_,_,_,_,_,_]) rfl rfl) ?_;rintro _ _ ⟨b3,rfl,rfl⟩;refine O.q 1 rfl<|O.nil<|S.seq<|S.frzO zC fun g hs hm hb3=>?_;replace hg:=Fr.sub_trans hg hs;replace hR:=melted hR hm;clear hs hm;refine S.frzO zC fun g hs hm hb2=>?_;replace hg:=Fr.sub_trans hg hs;replace hR:=melted hR hm
 try replace hb3:=hb3.mono hs
 clear hs hm;refine S.regionD (L:=[0,1,2,3,4,5,7,8,9,10,11,12,6,13,14,15,16]) F.mixed zB ?_;refine .quiet (.p rfl) rfl (fun _=>.fieldAddr fld158x0 rfl)<|.quiet (.p rfl) rfl (fun _=>.fieldAddr fld74x1 rfl)<|.quiet (.p rfl) rfl (fun _=>.loadAt flat3 rfl (hb2.drop 1) rfl) ?_;refine .quiet (.p rfl) rfl (fun _=>.fieldAddr fld158x0 rfl)<|.quiet (.p rfl) rfl (fun _=>.fieldAddr fld74x1 rfl)<|.quiet (.p rfl) rfl (fun _=>.loadAt flat3 rfl (hb3.drop 1) rfl) ?_;refine .quiet (.p rfl) rfl (fun _=>.fieldAddr fld158x0 rfl)<|.quiet (.p rfl) rfl (fun _=>.fieldAddr fld74x2 rfl)<|.quiet (.p rfl) rfl (fun _=>.loadAt flat3 rfl (hb2.drop 2) rfl) ?_;refine .quiet (.p rfl) rfl (fun _=>.fieldAddr fld158x0 rfl)<|.quiet (.p rfl) rfl (fun _=>.fieldAddr fld74x2 rfl)<|.quiet (.p rfl) rfl (fun _=>.loadAt flat3 rfl (hb3.drop 2) rfl) ?_;refine OD.call0 (.p rfl) zB rfl zB rfl rfl (compare_c _ _) ?_;rintro _ _ ⟨rfl,rfl⟩
 try simp only [zx1,zx2,zx3]
 refine OD.call0 (.p rfl) zB rfl zB rfl rfl (compare_c _ _) ?_;rintro _ _ ⟨rfl,rfl⟩
 try simp only [zx1,zx2,zx3]
 refine OD.litP (T:=Rp.i64) (ys:=[_,_]) (.p rfl) zB underlying25 elem3 zF rfl rfl ⟨⟨rfl,by first|assumption|(constructor<;>omega)⟩,⟨rfl,by first|assumption|(constructor<;>omega)⟩,trivial⟩ zF (fun a19 c19=>?_);refine OD.callS (.p rfl) zB rfl zB rfl rfl zC cmpOr_d ?_;rintro _ _ ⟨rfl,rfl⟩
 try simp only [zx1,zx2,zx3]
 refine OD.q 1 rfl<|ODx.nil<|S.ret results208 rfl fun w hw=>Holds.end_ hR hw ?_;refine ⟨_,⟨congrArg _ ?_,rfl⟩,by repeat (first|exact zpa|exact zpn|(apply zpc;focus (repeat (first|exact zh|apply zt)))|apply zps)⟩;unfold cmpR firstNZ firstNZ firstNZ
 split
 ·rfl
 ·split
  ·rfl
  ·rename_i h2;exact (Classical.not_not.1 h2).symm
theorem sadd_c {r:Fr} {tR:TypeId} {b:Nat} {va:Value} {xs ys:List RecT} (ha:Arr RecRp r va ys) (h1:oneK xs=true) (hl:xs.length+ys.length≤100000000000) :
  Con prog 104 #[.pointer (some ⟨b,0,none⟩),va] r [RowP r tR 158 5 b xs]
   (RetP (fun v η=>oneK (xs++ys)=true∧v=.tuple #[]∧η=[RowP r tR 158 5 b (xs++ys)]) (fun ch η=>oneK (xs++ys)=false∧ch=shp∧η=[])):=by
 have hrec:=ha;refine Con.of (n:=56) _ rfl func104 rfl rfl rfl fun g hg R hR=>?_;have ha:=ha.mono hg;obtain ⟨a1,c1,rfl⟩:=ha.shape;refine S.seq<|S.region rfl<|O.q 1 rfl<|O.op (.p rfl) (.len rfl underlying47 rfl)<|O.q 1 rfl<|O.nil<|S.block<|S.conv (B:=RowP r tR 158 5 b xs) (C:=RowP r tR 158 5 b (xs++ys.take 0)) zC (fun m x=>⟨m,Fr.sub_refl _,by rw [List.take_zero,List.append_nil];exact x⟩) ?_;refine S.loopK (ι:=Nat) (fun i=>i≤ys.length∧oneK (xs++ys.take i)=true) (fun i=>[(10,.int .i64 (i:Int))]) [(0,_),(8,_),(9,_)] (fun i=>[RowP r tR 158 5 b (xs++ys.take i)]) (fun i=>ys.length - i) (0) (by exact ⟨by simp,by simpa using h1⟩) (.cons rfl (.nil)) (.cons rfl (.cons rfl (.cons rfl (.nil)))) rfl fun i hx ih=>?_;have hm1:=meltRefl (g:=g);obtain ⟨hx1,hx2⟩:=hx;refine S.seq<|S.region rfl<|O.op (.p rfl) (.lss rfl rfl)<|O.nil (S.seq ?_)
 first|refine S.condD rfl (fun h11=>?_) (fun h11=>?_)|refine S.condB rfl (fun h11=>?_) (fun h11=>?_)
 ·have hi:i<ys.length:=by omega
  have htk:xs++ys.take (i+1)=(xs++ys.take i)++[ys[i]]:=by rw [List.take_succ_eq_append_getElem hi,List.append_assoc]
  have hsn:=oneK_snoc (x:=ys[i]) hx2;rw [← htk] at hsn;have hbad:oneK (xs++ys.take (i+1))=false→oneK (xs++ys)=false:=fun q=>by
   rw [Bool.eq_false_iff];intro q2;have:=oneK_take (xs.length+(i+1)) q2;rw [List.take_append,List.take_of_length_le (Nat.le_add_right _ _),Nat.add_sub_cancel_left,q] at this
   cases this
  have hlen:(xs++ys.take i).length=xs.length+i:=by simp;omega
  generalize hzs:xs++ys.take i=zs at hx2 hsn htk hlen ⊢;refine S.skip<|S.seq<|S.block<|S.seq<|S.region rfl<|O.ib (.p rfl) underlying47 size74 rfl rfl rfl hrec hg (h:=fun p12 cs12 hp12 hrr12=>?_);have hr12:=Rp.rel.mono hrr12 hg;obtain ⟨ra3_12,ra5_12,ra6_12,rc3_12,rc5_12,rc6_12,rfl,ho0_12,ho1_12,ho2_12,ha3_12,ha5_12,ha6_12⟩:=RecRp.sh hr12;refine O.op (.p rfl) (.loadAgg isAgg74 zB rfl hp12) ?_;refine O.opE (.p rfl) (.alloc (cs:=[.string ⟨#[]⟩,.int .i64 0,.int .i64 0,.slice none 0 0,.bool false,.slice none 0 0,.slice none 0 0]) zeroValue74 rfl) ?_;rintro _ _ ⟨b5,rfl,rfl⟩;refine O.opU rfl (.storeObj zB rfl rfl rfl rfl zC zH) ?_;refine O.nil<|S.seq<|S.region rfl<|O.op (.p rfl) (.loA (news:=[_,_,_,_,_,_,_]) isAgg74) ?_;refine O.call0 (.p rfl) rfl zB rfl rfl (rPut_c (by first|assumption|exact Rp.rel.mono zD hg)) ?_;rintro _ _ ⟨a16,c16,rfl,rfl⟩
  try simp only [zx1,zx2,zx3]
  refine O.q 5 rfl<|O.nil<|S.seq<|S.objIs (b:=b5) (cs' :=[.string (str ys[i].1),.int .i64 ys[i].2.1,.int .i64 ys[i].2.2.1,.slice ra3_12 ys[i].2.2.2.1.length rc3_12,.bool ys[i].2.2.2.2.1,.slice ra5_12 ys[i].2.2.2.2.2.1.length rc5_12,.slice ra6_12 ys[i].2.2.2.2.2.2.1.length rc6_12]) zC rfl ?_
  cases e:recOk ys[i] with
  |false =>
   have hno:oneK (xs++ys)=false:=hbad (by rw [Bool.eq_false_iff];intro q;have:=(hsn.1 q).1;rw [e] at this;cases this);refine S.regionD (L:=[0,1,2,3,4,5,6,7,8,9,10,11,12,13,14,15,16,17,18,19,20,21,22,23]) F.mixed zB ?_;refine OD.q 1 rfl<|.quiet (.p rfl) rfl (fun _=>.eql rfl rfl)<|OD.sF 20 rfl (by simp [recErr,e]) ?_;refine OD.q 21 rfl<|OD.callP0 (.p rfl) zB rfl zB rfl rfl (smust_c _) (fun ch η' w hX hW=>by (obtain ⟨hb,rfl,rfl⟩:=hX;exact hR _ _ w ⟨hno,rfl,rfl⟩ hW.drop_all)) ?_;rintro _ _ ⟨hb42,rfl,rfl⟩
   try simp only [zx1,zx2,zx3]
   exact absurd hb42 zJ
  |true =>
   have eo:recOut ys[i]=recB ys[i]:=by simp [recOut,e]
   rw [eo]
   by_cases h0:zs.length=0
   ·have hyes:=hsn.2 ⟨e,fun h=>absurd h zE⟩
    refine S.frzO zC fun g hs hm hb5=>?_;replace hg:=Fr.sub_trans hg hs;replace hR:=melted hR hm
    try replace ha:=ha.mono hs
    try replace hp12:=hp12.mono hs
    try replace hr12:=hr12.mono hs
    try replace ha3_12:=ha3_12.mono hs
    try replace ha5_12:=ha5_12.mono hs
    try replace ha6_12:=ha6_12.mono hs
    replace hm1:=meltTrans hm1 hm;clear hs hm;have hg_q:=hg;have hR_q:=hR
    try have ha_q:=ha
    try have hp12_q:=hp12
    try have hr12_q:=hr12
    try have ha3_12_q:=ha3_12
    try have ha5_12_q:=ha5_12
    try have ha6_12_q:=ha6_12
    try have hb5_q:=hb5
    refine S.frzH (B:=RowP r tR 158 5 b zs) zC fun gq hsq ⟨mq,hmq,hsmq⟩ hbq=>?_;replace hg:=Fr.sub_trans hg hsq;replace hR:=backR hR hbq
    try replace ha:=ha.mono hsq
    try replace hp12:=hp12.mono hsq
    try replace hr12:=hr12.mono hsq
    try replace ha3_12:=ha3_12.mono hsq
    try replace ha5_12:=ha5_12.mono hsq
    try replace ha6_12:=ha6_12.mono hsq
    try replace hb5:=hb5.mono hsq
    obtain ⟨qa,qc,hqat,hqar⟩:=RowP.read hg hsmq hmq;refine S.regionD (L:=[0,1,2,3,4,5,6,7,8,9,10,11,12,13,14,15,16,17,18,19,20,21,22,23]) F.mixed zB ?_;refine OD.q 1 rfl<|.quiet (.p rfl) rfl (fun _=>.eql rfl rfl)<|OD.sT 20 rfl (by simp [recErr,e]) ?_;refine OD.q 2 rfl<|.quiet (.g rfl rfl) rfl (fun _=>.nilCheck rfl)<|.quiet (.g rfl rfl) rfl (fun _=>.fieldAddr fld148x0 rfl)<|.quiet (.g rfl rfl) rfl (fun _=>.loadAt flat146 rfl hqat rfl) ?_;refine .quiet (.g rfl rfl) rfl (fun _=>.len rfl underlying146 rfl)<|.quiet (.g rfl rfl) rfl (fun _=>.eql rfl rfl)<|OD.sT 27 rfl (by exact decide_eq_true zE) ?_;refine OD.q 14 rfl<|OD.callP0 (.p rfl) zB rfl zB rfl rfl (smust_c _) (fun ch η' w hX hW=>by (exact absurd hX.1 zJ)) ?_;rintro _ _ ⟨hb42,rfl,rfl⟩
    try simp only [zx1,zx2,zx3]
    refine ODx.nil<|S.back hbq ?_;replace hg:=hg_q;replace hR:=hR_q
    try replace ha:=ha_q
    try replace hp12:=hp12_q
    try replace hr12:=hr12_q
    try replace ha3_12:=ha3_12_q
    try replace ha5_12:=ha5_12_q
    try replace ha6_12:=ha6_12_q
    try replace hb5:=hb5_q
    clear hg_q hR_q;refine S.open (A:=RowP r tR 158 5 b zs) zC (fun m x=>x) fun p=>?_;simp only [List.cons_append,List.nil_append];refine S.factS (B:=EachP (ItO r 5) p.2 zs) zC (fun _ z=>EachP.len z) fun hcl=>?_;have hpl:p.2.length≤100000000000:=by omega
    have hg_o:=hg;have hR_o:=hR
    try have ha_o:=ha
    try have hp12_o:=hp12
    try have hr12_o:=hr12
    try have ha3_12_o:=ha3_12
    try have ha5_12_o:=ha5_12
    try have ha6_12_o:=ha6_12
    try have hb5_o:=hb5
    refine S.frzH (B:=obj b tR [.slice p.1.1 zs.length p.1.2]) zC fun go hso ⟨mo,hmo,hsmo⟩ hbo=>?_;replace hg:=Fr.sub_trans hg hso;replace hR:=backR hR hbo
    try replace ha:=ha.mono hso
    try replace hp12:=hp12.mono hso
    try replace hr12:=hr12.mono hso
    try replace ha3_12:=ha3_12.mono hso
    try replace ha5_12:=ha5_12.mono hso
    try replace ha6_12:=ha6_12.mono hso
    try replace hb5:=hb5.mono hso
    have hato:=(obj_at hmo).mono hsmo;refine S.regionD (L:=[0,1,2,3,4,5,6,7,8,9,10,11,12]) F.mixed zB ?_;refine OD.q 2 rfl<|.quiet (.p rfl) rfl (fun _=>.nilCheck rfl)<|.quiet (.p rfl) rfl (fun _=>.fieldAddr fld148x0 rfl)<|.quiet (.p rfl) rfl (fun _=>.loadAt flat146 rfl hato rfl) ?_;refine .quiet (.p rfl) rfl (fun _=>.loadAgg isAgg74 zB rfl hb5) ?_;refine OD.q 1 rfl<|.quiet (.p rfl) rfl (fun _=>.build (cs:=[_,_,_,_,_,_,_,_]) underlying158 rfl rfl rfl rfl rfl)<|OD.litP (T:=(Rp.cells 8)) (ys:=[_]) (.p rfl) zB underlying146 elem158 zF rfl rfl ⟨⟨rfl,rfl,by first|(simp;done)|(intro v hv;simp [Value.cells] at hv;rcases hv with rfl|rfl<;>rfl)|(refine List.forall_mem_cons.2 ⟨rfl,?_⟩;repeat (first|exact (fun _ h=>absurd h List.not_mem_nil)|refine List.forall_mem_cons.2 ⟨rfl,?_⟩))⟩,trivial⟩ zF (fun a51 c51=>?_);refine OD.appendO (.p rfl) zB (T:=(Rp.cells 8)) underlying146 elem158 zF rfl rfl zC zC zI zI (fun a52 c52=>?_);refine .quiet (.p rfl) rfl (fun _=>.nilCheck rfl)<|.quiet (.p rfl) rfl (fun _=>.fieldAddr fld148x0 rfl)<|OD.last1 rfl zB (fun _ hw=>hbo hw) flat146 rfl rfl zK zC (by first|(simp;done)|(simp;omega)) ?_;replace hg:=hg_o;replace hR:=hR_o
    try replace ha:=ha_o
    try replace hp12:=hp12_o
    try replace hr12:=hr12_o
    try replace ha3_12:=ha3_12_o
    try replace ha5_12:=ha5_12_o
    try replace ha6_12:=ha6_12_o
    try replace hb5:=hb5_o
    clear hg_o hR_o;refine S.inBlock<|S.region rfl<|O.op (.p rfl) (.add rfl rfl (IntWalk.i64_in _ zE))<|O.q 1 rfl<|O.nil<|S.ownIs (T:=Rp.cells 8) (e:=158) (v' :=.slice a52 (zs++[ys[i]]).length c52) (xs' :=p.2++[[.string (str ys[i].1),.int .i64 ys[i].2.1,.int .i64 ys[i].2.2.1,.slice ra3_12 ys[i].2.2.2.1.length rc3_12,.bool ys[i].2.2.2.2.1,.slice ra5_12 ys[i].2.2.2.2.2.1.length rc5_12,.slice ra6_12 ys[i].2.2.2.2.2.2.1.length rc6_12,.slice a16 (recB ys[i]).length c16]]) zC (by simp [hcl]) (by simp [Value.cells]) ?_;refine S.objIs (b:=b) (cs' :=[.slice a52 (zs++[ys[i]]).length c52]) zC (by simp [hcl]) ?_;refine S.conv (B:=OwnP Rp.u8 5 (.slice a16 (recB ys[i]).length c16) (recB ys[i])) (C:=ItO r 5 [.string (str ys[i].1),.int .i64 ys[i].2.1,.int .i64 ys[i].2.2.1,.slice ra3_12 ys[i].2.2.2.1.length rc3_12,.bool ys[i].2.2.2.2.1,.slice ra5_12 ys[i].2.2.2.2.2.1.length rc5_12,.slice ra6_12 ys[i].2.2.2.2.2.2.1.length rc6_12,.slice a16 (recB ys[i]).length c16] ys[i]) zC (fun m x=>⟨m,Fr.sub_refl _,[.string (str ys[i].1),.int .i64 ys[i].2.1,.int .i64 ys[i].2.2.1,.slice ra3_12 ys[i].2.2.2.1.length rc3_12,.bool ys[i].2.2.2.2.1,.slice ra5_12 ys[i].2.2.2.2.2.1.length rc5_12,.slice ra6_12 ys[i].2.2.2.2.2.2.1.length rc6_12],a16,c16,rfl,hrr12,x⟩) ?_
    refine S.each (A:=ItO r 5) (bs:=p.2) (b:=[.string (str ys[i].1),.int .i64 ys[i].2.1,.int .i64 ys[i].2.2.1,.slice ra3_12 ys[i].2.2.2.1.length rc3_12,.bool ys[i].2.2.2.2.1,.slice ra5_12 ys[i].2.2.2.2.2.1.length rc5_12,.slice ra6_12 ys[i].2.2.2.2.2.2.1.length rc6_12,.slice a16 (recB ys[i]).length c16]) (a:=ys[i]) zC zC ?_;refine S.foldS (A:=RowP r tR 158 5 b (zs++[ys[i]])) (bs:=[obj b tR [.slice a52 (zs++[ys[i]]).length c52],OwnP (Rp.cells 8) 158 (.slice a52 (zs++[ys[i]]).length c52) (p.2++[[.string (str ys[i].1),.int .i64 ys[i].2.1,.int .i64 ys[i].2.2.1,.slice ra3_12 ys[i].2.2.2.1.length rc3_12,.bool ys[i].2.2.2.2.1,.slice ra5_12 ys[i].2.2.2.2.2.1.length rc5_12,.slice ra6_12 ys[i].2.2.2.2.2.2.1.length rc6_12,.slice a16 (recB ys[i]).length c16]]),EachP (ItO r 5) (p.2++[[.string (str ys[i].1),.int .i64 ys[i].2.1,.int .i64 ys[i].2.2.1,.slice ra3_12 ys[i].2.2.2.1.length rc3_12,.bool ys[i].2.2.2.2.1,.slice ra5_12 ys[i].2.2.2.2.2.1.length rc5_12,.slice ra6_12 ys[i].2.2.2.2.2.2.1.length rc6_12,.slice a16 (recB ys[i]).length c16]]) (zs++[ys[i]])]) zM (fun m x=>⟨((a52,c52),p.2++[[.string (str ys[i].1),.int .i64 ys[i].2.1,.int .i64 ys[i].2.2.1,.slice ra3_12 ys[i].2.2.2.1.length rc3_12,.bool ys[i].2.2.2.2.1,.slice ra5_12 ys[i].2.2.2.2.2.1.length rc5_12,.slice ra6_12 ys[i].2.2.2.2.2.2.1.length rc6_12,.slice a16 (recB ys[i]).length c16]]),x⟩) ?_;rw [← htk];exact S.melt hm1 (S.pw (ih (i+1) (by exact ⟨by omega,hyes⟩) zE))
   ·by_cases hk:ys[i].1=(zs[0]'zE).1
    ·have hyes:=hsn.2 ⟨e,fun h=>hk⟩
     refine S.frzO zC fun g hs hm hb5=>?_;replace hg:=Fr.sub_trans hg hs;replace hR:=melted hR hm
     try replace ha:=ha.mono hs
     try replace hp12:=hp12.mono hs
     try replace hr12:=hr12.mono hs
     try replace ha3_12:=ha3_12.mono hs
     try replace ha5_12:=ha5_12.mono hs
     try replace ha6_12:=ha6_12.mono hs
     replace hm1:=meltTrans hm1 hm;clear hs hm;have hg_q:=hg;have hR_q:=hR
     try have ha_q:=ha
     try have hp12_q:=hp12
     try have hr12_q:=hr12
     try have ha3_12_q:=ha3_12
     try have ha5_12_q:=ha5_12
     try have ha6_12_q:=ha6_12
     try have hb5_q:=hb5
     refine S.frzH (B:=RowP r tR 158 5 b zs) zC fun gq hsq ⟨mq,hmq,hsmq⟩ hbq=>?_;replace hg:=Fr.sub_trans hg hsq;replace hR:=backR hR hbq
     try replace ha:=ha.mono hsq
     try replace hp12:=hp12.mono hsq
     try replace hr12:=hr12.mono hsq
     try replace ha3_12:=ha3_12.mono hsq
     try replace ha5_12:=ha5_12.mono hsq
     try replace ha6_12:=ha6_12.mono hsq
     try replace hb5:=hb5.mono hsq
     obtain ⟨qa,qc,hqat,hqar⟩:=RowP.read hg hsmq hmq;refine S.regionD (L:=[0,1,2,3,4,5,6,7,8,9,10,11,12,13,14,15,16,17,18,19,20,21,22,23]) F.mixed zB ?_;refine OD.q 1 rfl<|.quiet (.p rfl) rfl (fun _=>.eql rfl rfl)<|OD.sT 20 rfl (by simp [recErr,e]) ?_;refine OD.q 2 rfl<|.quiet (.g rfl rfl) rfl (fun _=>.nilCheck rfl)<|.quiet (.g rfl rfl) rfl (fun _=>.fieldAddr fld148x0 rfl)<|.quiet (.g rfl rfl) rfl (fun _=>.loadAt flat146 rfl hqat rfl) ?_;refine .quiet (.g rfl rfl) rfl (fun _=>.len rfl underlying146 rfl)<|.quiet (.g rfl rfl) rfl (fun _=>.eql rfl rfl)<|OD.sF 27 rfl (by exact decide_eq_false zE) ?_;refine OD.q 2 rfl<|.quiet (.g rfl rfl) rfl (fun _=>.nilCheck rfl)<|.quiet (.g rfl rfl) rfl (fun _=>.fieldAddr fld148x0 rfl)<|.quiet (.g rfl rfl) rfl (fun _=>.loadAt flat146 rfl hqat rfl) ?_;refine OD.ia (.g rfl rfl) underlying146 size158 rfl rfl (show _=(((0):Nat):Int) by omega) (by first|assumption|exact Arr.mono hg zD|exact Arr.left zD|exact Arr.left (Arr.mono hg zD)) (h:=fun p33 cs33 hp33 hr33=>?_);obtain ⟨ia3_33,ia5_33,ia6_33,ia7_33,ic3_33,ic5_33,ic6_33,ic7_33,rfl,hr1_33,ha7_33⟩:=ItRp.sh hr33;refine .quiet (.g rfl rfl) rfl (fun _=>.fieldAddr fld158x0 rfl)<|.quiet (.g rfl rfl) rfl (fun _=>.fieldAddr fld74x0 rfl)<|.quiet (.g rfl rfl) rfl (fun _=>.loadAt flat9 rfl hp33 rfl) ?_
     refine .quiet (.g rfl rfl) rfl (fun _=>.fieldAddr fld74x0 rfl)<|.quiet (.g rfl rfl) rfl (fun _=>.loadAt flat9 rfl hb5 rfl) ?_;refine .quiet (.g rfl rfl) rfl (fun _=>.eqlS rfl rfl)<|OD.sT 39 rfl (by simp [hk]) ?_;refine OD.q 2 rfl<|OD.callP0 (.p rfl) zB rfl zB rfl rfl (smust_c _) (fun ch η' w hX hW=>by (exact absurd hX.1 zJ)) ?_;rintro _ _ ⟨hb42,rfl,rfl⟩
     try simp only [zx1,zx2,zx3]
     refine ODx.nil<|S.back hbq ?_;replace hg:=hg_q;replace hR:=hR_q
     try replace ha:=ha_q
     try replace hp12:=hp12_q
     try replace hr12:=hr12_q
     try replace ha3_12:=ha3_12_q
     try replace ha5_12:=ha5_12_q
     try replace ha6_12:=ha6_12_q
     try replace hb5:=hb5_q
     clear hg_q hR_q;refine S.open (A:=RowP r tR 158 5 b zs) zC (fun m x=>x) fun p=>?_;simp only [List.cons_append,List.nil_append];refine S.factS (B:=EachP (ItO r 5) p.2 zs) zC (fun _ z=>EachP.len z) fun hcl=>?_;have hpl:p.2.length≤100000000000:=by omega
     have hg_o:=hg;have hR_o:=hR
     try have ha_o:=ha
     try have hp12_o:=hp12
     try have hr12_o:=hr12
     try have ha3_12_o:=ha3_12
     try have ha5_12_o:=ha5_12
     try have ha6_12_o:=ha6_12
     try have hb5_o:=hb5
     refine S.frzH (B:=obj b tR [.slice p.1.1 zs.length p.1.2]) zC fun go hso ⟨mo,hmo,hsmo⟩ hbo=>?_;replace hg:=Fr.sub_trans hg hso;replace hR:=backR hR hbo
     try replace ha:=ha.mono hso
     try replace hp12:=hp12.mono hso
     try replace hr12:=hr12.mono hso
     try replace ha3_12:=ha3_12.mono hso
     try replace ha5_12:=ha5_12.mono hso
     try replace ha6_12:=ha6_12.mono hso
     try replace hb5:=hb5.mono hso
     have hato:=(obj_at hmo).mono hsmo;refine S.regionD (L:=[0,1,2,3,4,5,6,7,8,9,10,11,12]) F.mixed zB ?_;refine OD.q 2 rfl<|.quiet (.p rfl) rfl (fun _=>.nilCheck rfl)<|.quiet (.p rfl) rfl (fun _=>.fieldAddr fld148x0 rfl)<|.quiet (.p rfl) rfl (fun _=>.loadAt flat146 rfl hato rfl) ?_;refine .quiet (.p rfl) rfl (fun _=>.loadAgg isAgg74 zB rfl hb5) ?_;refine OD.q 1 rfl<|.quiet (.p rfl) rfl (fun _=>.build (cs:=[_,_,_,_,_,_,_,_]) underlying158 rfl rfl rfl rfl rfl)<|OD.litP (T:=(Rp.cells 8)) (ys:=[_]) (.p rfl) zB underlying146 elem158 zF rfl rfl ⟨⟨rfl,rfl,by first|(simp;done)|(intro v hv;simp [Value.cells] at hv;rcases hv with rfl|rfl<;>rfl)|(refine List.forall_mem_cons.2 ⟨rfl,?_⟩;repeat (first|exact (fun _ h=>absurd h List.not_mem_nil)|refine List.forall_mem_cons.2 ⟨rfl,?_⟩))⟩,trivial⟩ zF (fun a51 c51=>?_);refine OD.appendO (.p rfl) zB (T:=(Rp.cells 8)) underlying146 elem158 zF rfl rfl zC zC zI zI (fun a52 c52=>?_);refine .quiet (.p rfl) rfl (fun _=>.nilCheck rfl)<|.quiet (.p rfl) rfl (fun _=>.fieldAddr fld148x0 rfl)<|OD.last1 rfl zB (fun _ hw=>hbo hw) flat146 rfl rfl zK zC (by first|(simp;done)|(simp;omega)) ?_;replace hg:=hg_o;replace hR:=hR_o
     try replace ha:=ha_o
     try replace hp12:=hp12_o
     try replace hr12:=hr12_o
     try replace ha3_12:=ha3_12_o
     try replace ha5_12:=ha5_12_o
     try replace ha6_12:=ha6_12_o
     try replace hb5:=hb5_o
     clear hg_o hR_o;refine S.inBlock<|S.region rfl<|O.op (.p rfl) (.add rfl rfl (IntWalk.i64_in _ zE))<|O.q 1 rfl<|O.nil<|S.ownIs (T:=Rp.cells 8) (e:=158) (v' :=.slice a52 (zs++[ys[i]]).length c52) (xs' :=p.2++[[.string (str ys[i].1),.int .i64 ys[i].2.1,.int .i64 ys[i].2.2.1,.slice ra3_12 ys[i].2.2.2.1.length rc3_12,.bool ys[i].2.2.2.2.1,.slice ra5_12 ys[i].2.2.2.2.2.1.length rc5_12,.slice ra6_12 ys[i].2.2.2.2.2.2.1.length rc6_12,.slice a16 (recB ys[i]).length c16]]) zC (by simp [hcl]) (by simp [Value.cells]) ?_;refine S.objIs (b:=b) (cs' :=[.slice a52 (zs++[ys[i]]).length c52]) zC (by simp [hcl]) ?_;refine S.conv (B:=OwnP Rp.u8 5 (.slice a16 (recB ys[i]).length c16) (recB ys[i])) (C:=ItO r 5 [.string (str ys[i].1),.int .i64 ys[i].2.1,.int .i64 ys[i].2.2.1,.slice ra3_12 ys[i].2.2.2.1.length rc3_12,.bool ys[i].2.2.2.2.1,.slice ra5_12 ys[i].2.2.2.2.2.1.length rc5_12,.slice ra6_12 ys[i].2.2.2.2.2.2.1.length rc6_12,.slice a16 (recB ys[i]).length c16] ys[i]) zC (fun m x=>⟨m,Fr.sub_refl _,[.string (str ys[i].1),.int .i64 ys[i].2.1,.int .i64 ys[i].2.2.1,.slice ra3_12 ys[i].2.2.2.1.length rc3_12,.bool ys[i].2.2.2.2.1,.slice ra5_12 ys[i].2.2.2.2.2.1.length rc5_12,.slice ra6_12 ys[i].2.2.2.2.2.2.1.length rc6_12],a16,c16,rfl,hrr12,x⟩) ?_
     refine S.each (A:=ItO r 5) (bs:=p.2) (b:=[.string (str ys[i].1),.int .i64 ys[i].2.1,.int .i64 ys[i].2.2.1,.slice ra3_12 ys[i].2.2.2.1.length rc3_12,.bool ys[i].2.2.2.2.1,.slice ra5_12 ys[i].2.2.2.2.2.1.length rc5_12,.slice ra6_12 ys[i].2.2.2.2.2.2.1.length rc6_12,.slice a16 (recB ys[i]).length c16]) (a:=ys[i]) zC zC ?_;refine S.foldS (A:=RowP r tR 158 5 b (zs++[ys[i]])) (bs:=[obj b tR [.slice a52 (zs++[ys[i]]).length c52],OwnP (Rp.cells 8) 158 (.slice a52 (zs++[ys[i]]).length c52) (p.2++[[.string (str ys[i].1),.int .i64 ys[i].2.1,.int .i64 ys[i].2.2.1,.slice ra3_12 ys[i].2.2.2.1.length rc3_12,.bool ys[i].2.2.2.2.1,.slice ra5_12 ys[i].2.2.2.2.2.1.length rc5_12,.slice ra6_12 ys[i].2.2.2.2.2.2.1.length rc6_12,.slice a16 (recB ys[i]).length c16]]),EachP (ItO r 5) (p.2++[[.string (str ys[i].1),.int .i64 ys[i].2.1,.int .i64 ys[i].2.2.1,.slice ra3_12 ys[i].2.2.2.1.length rc3_12,.bool ys[i].2.2.2.2.1,.slice ra5_12 ys[i].2.2.2.2.2.1.length rc5_12,.slice ra6_12 ys[i].2.2.2.2.2.2.1.length rc6_12,.slice a16 (recB ys[i]).length c16]]) (zs++[ys[i]])]) zM (fun m x=>⟨((a52,c52),p.2++[[.string (str ys[i].1),.int .i64 ys[i].2.1,.int .i64 ys[i].2.2.1,.slice ra3_12 ys[i].2.2.2.1.length rc3_12,.bool ys[i].2.2.2.2.1,.slice ra5_12 ys[i].2.2.2.2.2.1.length rc5_12,.slice ra6_12 ys[i].2.2.2.2.2.2.1.length rc6_12,.slice a16 (recB ys[i]).length c16]]),x⟩) ?_;rw [← htk];exact S.melt hm1 (S.pw (ih (i+1) (by exact ⟨by omega,hyes⟩) zE))
    ·have hno:oneK (xs++ys)=false:=hbad (by rw [Bool.eq_false_iff];intro q;exact hk ((hsn.1 q).2 zE))
     refine S.frzO zC fun g hs hm hb5=>?_;replace hg:=Fr.sub_trans hg hs;replace hR:=melted hR hm
     try replace ha:=ha.mono hs
     try replace hp12:=hp12.mono hs
     try replace hr12:=hr12.mono hs
     try replace ha3_12:=ha3_12.mono hs
     try replace ha5_12:=ha5_12.mono hs
     try replace ha6_12:=ha6_12.mono hs
     replace hm1:=meltTrans hm1 hm;clear hs hm;have hg_q:=hg;have hR_q:=hR
     try have ha_q:=ha
     try have hp12_q:=hp12
     try have hr12_q:=hr12
     try have ha3_12_q:=ha3_12
     try have ha5_12_q:=ha5_12
     try have ha6_12_q:=ha6_12
     try have hb5_q:=hb5
     refine S.frzH (B:=RowP r tR 158 5 b zs) zC fun gq hsq ⟨mq,hmq,hsmq⟩ hbq=>?_;replace hg:=Fr.sub_trans hg hsq;replace hR:=backR hR hbq
     try replace ha:=ha.mono hsq
     try replace hp12:=hp12.mono hsq
     try replace hr12:=hr12.mono hsq
     try replace ha3_12:=ha3_12.mono hsq
     try replace ha5_12:=ha5_12.mono hsq
     try replace ha6_12:=ha6_12.mono hsq
     try replace hb5:=hb5.mono hsq
     obtain ⟨qa,qc,hqat,hqar⟩:=RowP.read hg hsmq hmq;refine S.regionD (L:=[0,1,2,3,4,5,6,7,8,9,10,11,12,13,14,15,16,17,18,19,20,21,22,23]) F.mixed zB ?_;refine OD.q 1 rfl<|.quiet (.p rfl) rfl (fun _=>.eql rfl rfl)<|OD.sT 20 rfl (by simp [recErr,e]) ?_;refine OD.q 2 rfl<|.quiet (.g rfl rfl) rfl (fun _=>.nilCheck rfl)<|.quiet (.g rfl rfl) rfl (fun _=>.fieldAddr fld148x0 rfl)<|.quiet (.g rfl rfl) rfl (fun _=>.loadAt flat146 rfl hqat rfl) ?_;refine .quiet (.g rfl rfl) rfl (fun _=>.len rfl underlying146 rfl)<|.quiet (.g rfl rfl) rfl (fun _=>.eql rfl rfl)<|OD.sF 27 rfl (by exact decide_eq_false zE) ?_;refine OD.q 2 rfl<|.quiet (.g rfl rfl) rfl (fun _=>.nilCheck rfl)<|.quiet (.g rfl rfl) rfl (fun _=>.fieldAddr fld148x0 rfl)<|.quiet (.g rfl rfl) rfl (fun _=>.loadAt flat146 rfl hqat rfl) ?_;refine OD.ia (.g rfl rfl) underlying146 size158 rfl rfl (show _=(((0):Nat):Int) by omega) (by first|assumption|exact Arr.mono hg zD|exact Arr.left zD|exact Arr.left (Arr.mono hg zD)) (h:=fun p33 cs33 hp33 hr33=>?_);obtain ⟨ia3_33,ia5_33,ia6_33,ia7_33,ic3_33,ic5_33,ic6_33,ic7_33,rfl,hr1_33,ha7_33⟩:=ItRp.sh hr33;refine .quiet (.g rfl rfl) rfl (fun _=>.fieldAddr fld158x0 rfl)<|.quiet (.g rfl rfl) rfl (fun _=>.fieldAddr fld74x0 rfl)<|.quiet (.g rfl rfl) rfl (fun _=>.loadAt flat9 rfl hp33 rfl) ?_
     refine .quiet (.g rfl rfl) rfl (fun _=>.fieldAddr fld74x0 rfl)<|.quiet (.g rfl rfl) rfl (fun _=>.loadAt flat9 rfl hb5 rfl) ?_;refine .quiet (.g rfl rfl) rfl (fun _=>.eqlS rfl rfl)<|OD.sF 39 rfl (by simp;exact fun q=>hk q.symm) ?_;refine OD.q 2 rfl<|OD.callP0 (.p rfl) zB rfl zB rfl rfl (smust_c _) (fun ch η' w hX hW=>by (obtain ⟨hb,rfl,rfl⟩:=hX;exact hR _ _ w ⟨hno,rfl,rfl⟩ hW.drop_all)) ?_;rintro _ _ ⟨hb42,rfl,rfl⟩
     try simp only [zx1,zx2,zx3]
     exact absurd hb42 zJ
 ·clear ih
  have hi:i=ys.length:=by omega
  subst hi;rw [List.take_length] at hx2 ⊢;refine S.exit rfl<|S.end0 results104 fun w hw=>Holds.end_ hR hw ?_;exact pk ⟨hx2,rfl,rfl⟩
theorem indexIt_c {r:Fr} {va:Value} {xs:List RecT} {f:FuncId} {first cap:Array Value} (ha:Arr ItRp r va xs) (hc:callable prog f=true) (q:RecT→Bool)
  (con:∀ cs x,x∈xs→ItRp.rel r cs x→Con prog f (first++#[.agg cs.toArray]++cap) r [] (Ret fun v η=>v=.bool (q x)∧η=[])) :
  Con prog 323 #[va,.func (.func f) first cap] r [] (Ret fun v η=>∃ k:Int,v=.int .i64 k∧(0≤k↔xs.any q=true)∧η=[]):=by
 have har:=ha;refine Con.of (n:=19) [va,.func (.func f) first cap] rfl func323 rfl rfl rfl fun g hg R hR=>?_;have ha:=ha.mono hg;have hbd:=ha.bound;obtain ⟨a1,c1,rfl⟩:=ha.shape;refine S.seq<|S.region rfl<|O.q 1 rfl<|O.nil<|S.seq<|S.seq<|S.region rfl<|O.q 1 rfl<|O.op (.p rfl) (.len rfl underlying146 rfl)<|O.q 1 rfl<|O.nil<|S.block<|S.loopK (ι:=Nat) (fun i=>i≤xs.length∧(xs.take i).any q=false) (fun i=>[(8,.int .i64 (i:Int))]) [(0,_),(1,_),(7,_)] (fun i=>[]) (fun i=>xs.length - i) (0) (by exact ⟨by simp,by simp⟩) (.cons rfl (.nil)) (.cons rfl (.cons rfl (.cons rfl (.nil)))) rfl fun i hx ih=>?_;have hm1:=meltRefl (g:=g);obtain ⟨hx1,hx2⟩:=hx;refine S.seq<|S.region rfl<|O.op (.p rfl) (.lss rfl rfl)<|O.nil (S.seq ?_)
 first|refine S.condD rfl (fun h9=>?_) (fun h9=>?_)|refine S.condB rfl (fun h9=>?_) (fun h9=>?_)
 ·have hi:i<xs.length:=by omega
  cases e:q xs[i] with
  |true =>
   have hy:xs.any q=true:=List.any_eq_true.2 ⟨xs[i],List.getElem_mem hi,e⟩;clear ih;refine S.skip<|S.seq<|S.block<|S.seq<|S.region rfl<|O.q 2 rfl<|O.nil<|S.seq<|S.region rfl<|O.q 3 rfl<|O.ib (.p rfl) underlying146 size158 rfl rfl rfl har hg (h:=fun p14 cs14 hp14 hrr14=>?_);have hr14:=Rp.rel.mono hrr14 hg;obtain ⟨ia3_14,ia5_14,ia6_14,ia7_14,ic3_14,ic5_14,ic6_14,ic7_14,rfl,hr1_14,ha7_14⟩:=ItRp.sh hr14;refine O.op (.p rfl) (.loadAgg isAgg158 zB rfl hp14) ?_;refine O.call0 (.p rfl) rfl hc rfl rfl (((con _ _ (List.getElem_mem hi) hrr14).sub hg)) ?_;rintro _ _ ⟨rfl,rfl⟩
   try simp only [zx1,zx2,zx3]
   refine O.sT 16 rfl (by exact e) ?_;refine O.nil<|S.condT rfl<|S.seq<|S.region rfl<|O.q 2 rfl<|O.nil ?_;exact S.rt results323 rfl hR ⟨(i:Int),rfl,⟨fun _=>hy,fun _=>by omega⟩,rfl⟩
  |false =>
   refine S.skip<|S.seq<|S.block<|S.seq<|S.region rfl<|O.q 2 rfl<|O.nil<|S.seq<|S.region rfl<|O.q 3 rfl<|O.ib (.p rfl) underlying146 size158 rfl rfl rfl har hg (h:=fun p14 cs14 hp14 hrr14=>?_);have hr14:=Rp.rel.mono hrr14 hg;obtain ⟨ia3_14,ia5_14,ia6_14,ia7_14,ic3_14,ic5_14,ic6_14,ic7_14,rfl,hr1_14,ha7_14⟩:=ItRp.sh hr14;refine O.op (.p rfl) (.loadAgg isAgg158 zB rfl hp14) ?_;refine O.call0 (.p rfl) rfl hc rfl rfl (((con _ _ (List.getElem_mem hi) hrr14).sub hg)) ?_;rintro _ _ ⟨rfl,rfl⟩
   try simp only [zx1,zx2,zx3]
   refine O.sF 16 rfl (by exact e) ?_;refine O.nil<|S.condF rfl<|S.skip<|S.inBlock<|S.region rfl<|O.op (.p rfl) (.add rfl rfl (IntWalk.i64_in _ zE))<|O.q 1 rfl<|O.nil ?_;exact S.wk (ih (i+1) (by exact ⟨by omega,by rw [List.take_succ_eq_append_getElem hi,List.any_append,hx2];simp [e]⟩) zE)
 ·clear ih
  have hi:i=xs.length:=by omega
  subst hi;rw [List.take_length] at hx2;refine S.exit rfl<|S.seq<|S.region rfl<|O.q 1 rfl<|O.nil ?_;exact S.rt results323 rfl hR ⟨-1,rfl,⟨fun h=>absurd h zF,fun h=>by rw [hx2] at h;cases h⟩,rfl⟩
theorem containsIt_c {r:Fr} {va:Value} {xs:List RecT} {f:FuncId} {first cap:Array Value} (ha:Arr ItRp r va xs) (hc:callable prog f=true) (q:RecT→Bool)
  (con:∀ cs x,x∈xs→ItRp.rel r cs x→Con prog f (first++#[.agg cs.toArray]++cap) r [] (Ret fun v η=>v=.bool (q x)∧η=[])) (h1:(Value.func (.func f) first cap).oneCell' =true) :
  Con prog 283 #[va,.func (.func f) first cap] r [] (Ret fun v η=>v=.bool (xs.any q)∧η=[]):=by
 refine Con.of (n:=9) [va,.func (.func f) first cap] rfl func283 rfl rfl rfl fun g hg R hR=>?_;refine S.seq<|S.region rfl<|O.q 1 rfl<|O.nil<|S.seq<|S.region rfl<|O.q 2 rfl<|O.call0 (.p rfl) rfl zB rfl rfl (((indexIt_c ha hc q con).sub hg)) ?_;rintro v7 _ ⟨k7,rfl,hk7,rfl⟩
 try simp only [zx1,zx2,zx3]
 refine O.op (.p rfl) (.geq rfl rfl)<|O.q 1 rfl<|O.nil ?_;exact S.rt results283 rfl hR ⟨congrArg _ (by rw [Bool.eq_iff_iff,decide_eq_true_iff];exact hk7),rfl⟩
theorem under1_c {r:Fr} {b:Nat} {cs ds:List Value} {x y:RecT} (hx:At r ⟨b,0,none⟩ cs) (h:ItRp.rel r cs x) (h' :ItRp.rel r ds y) :
  Con prog 284 (#[]++#[.agg ds.toArray]++#[.pointer (some ⟨b,0,none⟩)]) r [] (Ret fun v η=>v=.bool (decide (cmpR x y≠0) && over y x)∧η=[]):=by
 obtain ⟨xa3,xa5,xa6,xa7,xc3,xc5,xc6,xc7,rfl,hx1,_⟩:=ItRp.sh h;obtain ⟨ya3,ya5,ya6,ya7,yc3,yc5,yc6,yc7,rfl,hy1,_⟩:=ItRp.sh h';refine Con.of (n:=15) [.agg #[.string (str y.1),.int .i64 y.2.1,.int .i64 y.2.2.1,.slice ya3 y.2.2.2.1.length yc3,.bool y.2.2.2.2.1,.slice ya5 y.2.2.2.2.2.1.length yc5,.slice ya6 y.2.2.2.2.2.2.1.length yc6,.slice ya7 (recB y).length yc7],.pointer (some ⟨b,0,none⟩)] rfl func284 rfl rfl rfl fun g hg R hR=>?_;have hx:=hx.mono hg;have h:=h.mono hg;have h' :=h'.mono hg;have hx1:=hx1.mono hg;have hy1:=hy1.mono hg
 by_cases e:cmpR x y=0
 ·
  refine S.seq<|S.region rfl<|O.opE (.p rfl) (.box (cs:=[_,_,_,_,_,_,_,_]) rfl rfl) ?_;rintro _ _ ⟨b2,rfl,rfl⟩;refine O.q 1 rfl<|O.nil<|S.seq<|S.region rfl<|O.op (.p rfl) (.loadAgg isAgg158 zB rfl hx) ?_;refine O.op (.p rfl) (.loA (news:=[_,_,_,_,_,_,_,_]) isAgg158) ?_;refine O.call0 (.p rfl) rfl zB rfl rfl (scompare_c h h') ?_;rintro _ _ ⟨rfl,rfl⟩
  try simp only [zx1,zx2,zx3]
  refine O.op (.p rfl) (.neq rfl rfl)<|O.sF 7 rfl (by simp [e]) ?_;refine O.q 8 rfl<|O.nil ?_;exact S.rt results284 rfl hR ⟨by simp [e],rfl⟩
 ·
  refine S.seq<|S.region rfl<|O.opE (.p rfl) (.box (cs:=[_,_,_,_,_,_,_,_]) rfl rfl) ?_;rintro _ _ ⟨b2,rfl,rfl⟩;refine O.q 1 rfl<|O.nil<|S.seq<|S.region rfl<|O.op (.p rfl) (.loadAgg isAgg158 zB rfl hx) ?_;refine O.op (.p rfl) (.loA (news:=[_,_,_,_,_,_,_,_]) isAgg158) ?_;refine O.call0 (.p rfl) rfl zB rfl rfl (scompare_c h h') ?_;rintro _ _ ⟨rfl,rfl⟩
  try simp only [zx1,zx2,zx3]
  refine O.op (.p rfl) (.neq rfl rfl)<|O.sT 7 rfl (by simp [e]) ?_;refine O.q 1 rfl<|O.op (.g rfl rfl) (.fieldObj fld158x0 rfl)<|O.op (.g rfl rfl) (.loA (news:=[_,_,_,_,_,_,_]) isAgg74) ?_;refine O.op (.g rfl rfl) (.fieldAddr fld158x0 rfl)<|O.op (.g rfl rfl) (.loadAgg (cs:=[.string (str x.1),.int .i64 x.2.1,.int .i64 x.2.2.1,.slice xa3 x.2.2.2.1.length xc3,.bool x.2.2.2.2.1,.slice xa5 x.2.2.2.2.2.1.length xc5,.slice xa6 x.2.2.2.2.2.2.1.length xc6]) isAgg74 zB rfl (hx.take 7)) ?_;refine O.call0 (.g rfl rfl) rfl zB rfl rfl (rOver_c hy1 hx1) ?_;rintro _ _ ⟨rfl,rfl⟩
  try simp only [zx1,zx2,zx3]
  refine O.q 2 rfl<|O.nil ?_;exact S.rt results284 rfl hR ⟨by simp [e],rfl⟩
theorem sunder_c {r:Fr} {b:Nat} {xs:List RecT} {cs:List Value} {x:RecT} (hrow:RowA r b xs) (h:ItRp.rel r cs x) :
  Con prog 212 #[.pointer (some ⟨b,0,none⟩),.agg cs.toArray] r [] (Ret fun v η=>v=.bool (underR xs x)∧η=[]):=by
 obtain ⟨xa3,xa5,xa6,xa7,xc3,xc5,xc6,xc7,rfl,hx1,_⟩:=ItRp.sh h;obtain ⟨qa,qc,hat,har⟩:=hrow;refine Con.of (n:=11) _ rfl func212 rfl rfl rfl fun g hg R hR=>?_;have h:=h.mono hg;have hat:=hat.mono hg;have har:=har.mono hg;refine S.seq<|S.region rfl<|O.opE (.p rfl) (.box (cs:=[_,_,_,_,_,_,_,_]) rfl rfl) ?_;rintro _ _ ⟨b3,rfl,rfl⟩;refine O.q 1 rfl<|O.nil<|S.seq<|S.frzO zC fun g hs hm hb3=>?_;replace hg:=Fr.sub_trans hg hs;replace hR:=melted hR hm
 try replace h:=h.mono hs
 try replace hat:=hat.mono hs
 try replace har:=har.mono hs
 clear hs hm;refine S.region rfl<|O.q 1 rfl<|O.op (.p rfl) (.nilCheck rfl)<|O.op (.p rfl) (.fieldAddr fld148x0 rfl)<|O.op (.p rfl) (.loadAt flat146 rfl hat rfl) ?_;refine O.op (.p rfl) (.mkFunc rfl rfl)<|O.call0 (.p rfl) rfl zB rfl rfl ((containsIt_c har zB (fun y=>decide (cmpR x y≠0) && over y x) (fun cs y hy hr=>under1_c hb3 h hr) rfl)) ?_;rintro _ _ ⟨rfl,rfl⟩
 try simp only [zx1,zx2,zx3]
 refine O.q 1 rfl<|O.nil ?_;exact S.rt results212 rfl hR ⟨rfl,rfl⟩
theorem rowOf_c {r:Fr} {va:Value} {xs:List RecT} (ha:Arr RecRp r va xs) (hl:xs.length≤100000000000) :
  Con prog 116 #[va] r [] (RetP (fun v η=>SRight xs∧∃ b,v=.pointer (some ⟨b,0,none⟩)∧η=[RowP r 148 158 5 b xs]) (fun ch η=>¬ SRight xs∧ch=shp∧η=[])):=by
 have har:=ha;refine Con.of (n:=45) _ rfl func116 rfl rfl rfl fun g hg R hR=>?_;have ha:=ha.mono hg;obtain ⟨a1,c1,rfl⟩:=ha.shape;refine S.seq<|S.region rfl<|O.q 1 rfl<|O.nil<|S.seq<|S.region rfl<|O.op (.p rfl) (.build (cs:=[_]) underlying148 rfl rfl rfl rfl rfl)<|O.opE (.p rfl) (.box (cs:=[_]) rfl rfl) ?_;rintro _ _ ⟨b7,rfl,rfl⟩;refine O.q 1 rfl<|O.nil<|S.seq<|S.conv (B:=obj b7 148 [.slice none 0 0]) (C:=RowP r 148 158 5 b7 []) zC (fun m x=>⟨m,Fr.sub_refl _,RowP.nil x⟩) ?_;refine S.region rfl<|O.q 2 rfl<|O.callPS (.p rfl) rfl zB rfl rfl zC ((sadd_c har rfl (by simpa using hl)).sub hg) (fun ch η' w hX hW=>by (obtain ⟨hb,rfl,rfl⟩:=hX;exact hR _ _ w ⟨fun q=>(by rw [List.nil_append,q.1] at hb;cases hb),rfl,rfl⟩ hW.drop_all)) ?_;rintro _ _ ⟨hone,rfl,rfl⟩
 try simp only [zx1,zx2,zx3]
 refine O.nil (S.seq (S.seq ?_));rw [List.nil_append] at hone;have hg_q:=hg;have hR_q:=hR
 try have ha_q:=ha
 refine S.frzH (B:=RowP r 148 158 5 b7 xs) zC fun gq hsq ⟨mq,hmq,hsmq⟩ hbq=>?_;replace hg:=Fr.sub_trans hg hsq;replace hR:=backR hR hbq
 try replace ha:=ha.mono hsq
 have hrow:=RowP.read hg hsmq hmq;obtain ⟨qa,qc,hqat,hqar⟩:=id hrow;refine S.region rfl<|O.q 1 rfl<|O.op (.p rfl) (.nilCheck rfl)<|O.op (.p rfl) (.fieldAddr fld148x0 rfl)<|O.op (.p rfl) (.loadAt flat146 rfl hqat rfl) ?_;refine O.op (.p rfl) (.len rfl underlying146 rfl)<|O.q 1 rfl<|O.nil<|S.block<|S.loopK (ι:=Nat) (fun i=>i≤xs.length∧∀ j (h:j<xs.length),j<i→(∀ h0:0<j,cmpR xs[j-1] xs[j]<0)∧underR xs xs[j]=false) (fun i=>[(16,.int .i64 (i:Int))]) [(3,_),(14,_),(15,_)] (fun i=>[]) (fun i=>xs.length - i) (0) (by exact ⟨by simp,fun j _ h=>absurd h zE⟩) (.cons rfl (.nil)) (.cons rfl (.cons rfl (.cons rfl (.nil)))) rfl fun i hx ih=>?_;have hm1:=meltRefl (g:=gq);obtain ⟨hx1,hx2⟩:=hx;refine S.seq<|S.region rfl<|O.op (.p rfl) (.lss rfl rfl)<|O.nil (S.seq ?_)
 first|refine S.condD rfl (fun h17=>?_) (fun h17=>?_)|refine S.condB rfl (fun h17=>?_) (fun h17=>?_)
 ·have hi:i<xs.length:=by omega
  have hnext:((∀ h0:0<i,cmpR xs[i-1] xs[i]<0)∧underR xs xs[i]=false)→∀ j (h:j<xs.length),j<i+1→(∀ h0:0<j,cmpR xs[j-1] xs[j]<0)∧underR xs xs[j]=false:=by
   intro q j h hj
   by_cases e:j=i
   ·subst e;exact q
   ·exact hx2 j h zE
  refine S.skip<|S.seq<|S.block<|S.seq<|S.region rfl<|O.q 1 rfl<|O.ia (.p rfl) underlying146 size158 rfl rfl rfl (by first|assumption|exact Arr.mono hg zD|exact Arr.left zD|exact Arr.left (Arr.mono hg zD)) (h:=fun p19 cs19 hp19 hr19=>?_);obtain ⟨ia3_19,ia5_19,ia6_19,ia7_19,ic3_19,ic5_19,ic6_19,ic7_19,rfl,hr1_19,ha7_19⟩:=ItRp.sh hr19;refine O.op (.p rfl) (.loadAgg isAgg158 zB rfl hp19) ?_;refine O.opE (.p rfl) (.alloc (cs:=[.string ⟨#[]⟩,.int .i64 0,.int .i64 0,.slice none 0 0,.bool false,.slice none 0 0,.slice none 0 0,.slice none 0 0]) zeroValue158 rfl) ?_;rintro _ _ ⟨b5,rfl,rfl⟩;refine O.q 1 rfl<|O.opU rfl (.storeObj zB rfl rfl rfl rfl zC zH) ?_;refine O.nil<|S.objIs (b:=b5) (cs' :=[.string (str xs[i].1),.int .i64 xs[i].2.1,.int .i64 xs[i].2.2.1,.slice ia3_19 xs[i].2.2.2.1.length ic3_19,.bool xs[i].2.2.2.2.1,.slice ia5_19 xs[i].2.2.2.2.2.1.length ic5_19,.slice ia6_19 xs[i].2.2.2.2.2.2.1.length ic6_19,.slice ia7_19 (recB xs[i]).length ic7_19]) zC rfl ?_;refine S.frzO zC fun g hs hm hb5=>?_;replace hg:=Fr.sub_trans hg hs;replace hR:=melted hR hm
  try replace ha:=ha.mono hs
  try replace hqat:=hqat.mono hs
  try replace hqar:=hqar.mono hs
  try replace hrow:=hrow.mono hs
  try replace hp19:=hp19.mono hs
  try replace ha7_19:=ha7_19.mono hs
  try replace hr19:=hr19.mono hs
  try replace hr1_19:=hr1_19.mono hs
  replace hm1:=meltTrans hm1 hm;clear hs hm
  by_cases h0:i=0
  ·cases eu:underR xs xs[i] with
   |true =>
    have hno:¬ SRight xs:=fun q=>by have:=(q.2 i hi).2;rw [eu] at this;cases this
    clear ih;refine S.regionD (L:=[0,1,2,3,4,5,6,7,8,9,10,11,12,13,14,15,16,17,18,19,20,21]) F.mixed zB ?_;refine OD.q 1 rfl<|.quiet (.p rfl) rfl (fun _=>.eql rfl rfl)<|OD.sT 22 rfl (by exact decide_eq_true zE) ?_;refine OD.q 15 rfl<|.quiet (.g rfl rfl) rfl (fun _=>.loadAgg isAgg158 zB rfl hb5) ?_;refine OD.call0 (.g rfl rfl) zB rfl zB rfl rfl (sunder_c hrow hr19) ?_;rintro _ _ ⟨rfl,rfl⟩
    try simp only [zx1,zx2,zx3]
    refine OD.sT 39 rfl (by exact eu) ?_;refine .quiet (.g rfl rfl) rfl (fun _=>.not rfl)<|OD.q 1 rfl<|OD.callP0 (.p rfl) zB rfl zB rfl rfl (smust_c _) (fun ch η' w hX hW=>by (obtain ⟨hb,rfl,rfl⟩:=hX;exact hR _ _ w ⟨hno,rfl,rfl⟩ hW.drop_all)) ?_;rintro _ _ ⟨hb42,rfl,rfl⟩
    try simp only [zx1,zx2,zx3]
    exact absurd hb42 zJ
   |false =>
    refine S.regionD (L:=[0,1,2,3,4,5,6,7,8,9,10,11,12,13,14,15,16,17,18,19,20,21]) F.mixed zB ?_;refine OD.q 1 rfl<|.quiet (.p rfl) rfl (fun _=>.eql rfl rfl)<|OD.sT 22 rfl (by exact decide_eq_true zE) ?_;refine OD.q 15 rfl<|.quiet (.g rfl rfl) rfl (fun _=>.loadAgg isAgg158 zB rfl hb5) ?_;refine OD.call0 (.g rfl rfl) zB rfl zB rfl rfl (sunder_c hrow hr19) ?_;rintro _ _ ⟨rfl,rfl⟩
    try simp only [zx1,zx2,zx3]
    refine OD.sF 39 rfl (by exact eu) ?_;refine .quiet (.g rfl rfl) rfl (fun _=>.not rfl)<|OD.q 1 rfl<|OD.callP0 (.p rfl) zB rfl zB rfl rfl (smust_c _) (fun ch η' w hX hW=>by (exact absurd hX.1 zJ)) ?_;rintro _ _ ⟨hb42,rfl,rfl⟩
    try simp only [zx1,zx2,zx3]
    refine ODx.nil<|S.inBlock<|S.region rfl<|O.op (.p rfl) (.add rfl rfl (IntWalk.i64_in _ zE))<|O.q 1 rfl<|O.nil ?_;exact S.melt hm1 (S.wk (ih (i+1) (by exact ⟨by omega,hnext ⟨fun h1=>absurd h1 zE,eu⟩⟩) zE))
  ·have hi1:i - 1<xs.length:=by omega
   by_cases hc:cmpR xs[i-1] xs[i]<0
   ·cases eu:underR xs xs[i] with
    |true =>
     have hno:¬ SRight xs:=fun q=>by have:=(q.2 i hi).2;rw [eu] at this;cases this
     clear ih;refine S.regionD (L:=[0,1,2,3,4,5,6,7,8,9,10,11,12,13,14,15,16,17,18,19,20,21]) F.mixed zB ?_;refine OD.q 1 rfl<|.quiet (.p rfl) rfl (fun _=>.eql rfl rfl)<|OD.sF 22 rfl (by exact decide_eq_false zE) ?_;refine OD.q 2 rfl<|.quiet (.g rfl rfl) rfl (fun _=>.nilCheck rfl)<|.quiet (.g rfl rfl) rfl (fun _=>.fieldAddr fld148x0 rfl)<|.quiet (.g rfl rfl) rfl (fun _=>.loadAt flat146 rfl hqat rfl) ?_;refine OD.q 1 rfl<|.quiet (.g rfl rfl) rfl (fun _=>.sub rfl rfl (IntWalk.i64_in _ zE))<|OD.ia (.g rfl rfl) underlying146 size158 rfl rfl (show _=(((i - 1):Nat):Int) by omega) (by first|assumption|exact Arr.mono hg zD|exact Arr.left zD|exact Arr.left (Arr.mono hg zD)) (h:=fun p30 cs30 hp30 hr30=>?_);obtain ⟨ia3_30,ia5_30,ia6_30,ia7_30,ic3_30,ic5_30,ic6_30,ic7_30,rfl,hr1_30,ha7_30⟩:=ItRp.sh hr30;refine .quiet (.g rfl rfl) rfl (fun _=>.loadAgg isAgg158 zB rfl hp30) ?_;refine .quiet (.g rfl rfl) rfl (fun _=>.loadAgg isAgg158 zB rfl hb5) ?_;refine OD.call0 (.g rfl rfl) zB rfl zB rfl rfl (scompare_c hr30 hr19) ?_;rintro _ _ ⟨rfl,rfl⟩
     try simp only [zx1,zx2,zx3]
     refine .quiet (.g rfl rfl) rfl (fun _=>.lss rfl rfl)<|OD.sT 34 rfl (by exact decide_eq_true hc) ?_;refine OD.q 3 rfl<|.quiet (.g rfl rfl) rfl (fun _=>.loadAgg isAgg158 zB rfl hb5) ?_;refine OD.call0 (.g rfl rfl) zB rfl zB rfl rfl (sunder_c hrow hr19) ?_;rintro _ _ ⟨rfl,rfl⟩
     try simp only [zx1,zx2,zx3]
     refine OD.sT 39 rfl (by exact eu) ?_;refine .quiet (.g rfl rfl) rfl (fun _=>.not rfl)<|OD.q 1 rfl<|OD.callP0 (.p rfl) zB rfl zB rfl rfl (smust_c _) (fun ch η' w hX hW=>by (obtain ⟨hb,rfl,rfl⟩:=hX;exact hR _ _ w ⟨hno,rfl,rfl⟩ hW.drop_all)) ?_;rintro _ _ ⟨hb42,rfl,rfl⟩
     try simp only [zx1,zx2,zx3]
     exact absurd hb42 zJ
    |false =>
     refine S.regionD (L:=[0,1,2,3,4,5,6,7,8,9,10,11,12,13,14,15,16,17,18,19,20,21]) F.mixed zB ?_;refine OD.q 1 rfl<|.quiet (.p rfl) rfl (fun _=>.eql rfl rfl)<|OD.sF 22 rfl (by exact decide_eq_false zE) ?_;refine OD.q 2 rfl<|.quiet (.g rfl rfl) rfl (fun _=>.nilCheck rfl)<|.quiet (.g rfl rfl) rfl (fun _=>.fieldAddr fld148x0 rfl)<|.quiet (.g rfl rfl) rfl (fun _=>.loadAt flat146 rfl hqat rfl) ?_;refine OD.q 1 rfl<|.quiet (.g rfl rfl) rfl (fun _=>.sub rfl rfl (IntWalk.i64_in _ zE))<|OD.ia (.g rfl rfl) underlying146 size158 rfl rfl (show _=(((i - 1):Nat):Int) by omega) (by first|assumption|exact Arr.mono hg zD|exact Arr.left zD|exact Arr.left (Arr.mono hg zD)) (h:=fun p30 cs30 hp30 hr30=>?_);obtain ⟨ia3_30,ia5_30,ia6_30,ia7_30,ic3_30,ic5_30,ic6_30,ic7_30,rfl,hr1_30,ha7_30⟩:=ItRp.sh hr30;refine .quiet (.g rfl rfl) rfl (fun _=>.loadAgg isAgg158 zB rfl hp30) ?_;refine .quiet (.g rfl rfl) rfl (fun _=>.loadAgg isAgg158 zB rfl hb5) ?_;refine OD.call0 (.g rfl rfl) zB rfl zB rfl rfl (scompare_c hr30 hr19) ?_;rintro _ _ ⟨rfl,rfl⟩
     try simp only [zx1,zx2,zx3]
     refine .quiet (.g rfl rfl) rfl (fun _=>.lss rfl rfl)<|OD.sT 34 rfl (by exact decide_eq_true hc) ?_;refine OD.q 3 rfl<|.quiet (.g rfl rfl) rfl (fun _=>.loadAgg isAgg158 zB rfl hb5) ?_;refine OD.call0 (.g rfl rfl) zB rfl zB rfl rfl (sunder_c hrow hr19) ?_;rintro _ _ ⟨rfl,rfl⟩
     try simp only [zx1,zx2,zx3]
     refine OD.sF 39 rfl (by exact eu) ?_;refine .quiet (.g rfl rfl) rfl (fun _=>.not rfl)<|OD.q 1 rfl<|OD.callP0 (.p rfl) zB rfl zB rfl rfl (smust_c _) (fun ch η' w hX hW=>by (exact absurd hX.1 zJ)) ?_;rintro _ _ ⟨hb42,rfl,rfl⟩
     try simp only [zx1,zx2,zx3]
     refine ODx.nil<|S.inBlock<|S.region rfl<|O.op (.p rfl) (.add rfl rfl (IntWalk.i64_in _ zE))<|O.q 1 rfl<|O.nil ?_;exact S.melt hm1 (S.wk (ih (i+1) (by exact ⟨by omega,hnext ⟨fun _=>hc,eu⟩⟩) zE))
   ·have hno:¬ SRight xs:=fun q=>hc ((q.2 i hi).1 zE)
    clear ih;refine S.regionD (L:=[0,1,2,3,4,5,6,7,8,9,10,11,12,13,14,15,16,17,18,19,20,21]) F.mixed zB ?_;refine OD.q 1 rfl<|.quiet (.p rfl) rfl (fun _=>.eql rfl rfl)<|OD.sF 22 rfl (by exact decide_eq_false zE) ?_;refine OD.q 2 rfl<|.quiet (.g rfl rfl) rfl (fun _=>.nilCheck rfl)<|.quiet (.g rfl rfl) rfl (fun _=>.fieldAddr fld148x0 rfl)<|.quiet (.g rfl rfl) rfl (fun _=>.loadAt flat146 rfl hqat rfl) ?_;refine OD.q 1 rfl<|.quiet (.g rfl rfl) rfl (fun _=>.sub rfl rfl (IntWalk.i64_in _ zE))<|OD.ia (.g rfl rfl) underlying146 size158 rfl rfl (show _=(((i - 1):Nat):Int) by omega) (by first|assumption|exact Arr.mono hg zD|exact Arr.left zD|exact Arr.left (Arr.mono hg zD)) (h:=fun p30 cs30 hp30 hr30=>?_);obtain ⟨ia3_30,ia5_30,ia6_30,ia7_30,ic3_30,ic5_30,ic6_30,ic7_30,rfl,hr1_30,ha7_30⟩:=ItRp.sh hr30;refine .quiet (.g rfl rfl) rfl (fun _=>.loadAgg isAgg158 zB rfl hp30) ?_;refine .quiet (.g rfl rfl) rfl (fun _=>.loadAgg isAgg158 zB rfl hb5) ?_;refine OD.call0 (.g rfl rfl) zB rfl zB rfl rfl (scompare_c hr30 hr19) ?_;rintro _ _ ⟨rfl,rfl⟩
    try simp only [zx1,zx2,zx3]
    refine .quiet (.g rfl rfl) rfl (fun _=>.lss rfl rfl)<|OD.sF 34 rfl (by exact decide_eq_false hc) ?_;refine OD.q 7 rfl<|OD.callP0 (.p rfl) zB rfl zB rfl rfl (smust_c _) (fun ch η' w hX hW=>by (obtain ⟨hb,rfl,rfl⟩:=hX;exact hR _ _ w ⟨hno,rfl,rfl⟩ hW.drop_all)) ?_;rintro _ _ ⟨hb42,rfl,rfl⟩
    try simp only [zx1,zx2,zx3]
    exact absurd hb42 zJ
 ·clear ih
  have hi:i=xs.length:=by omega
  subst hi;refine S.exit rfl<|S.seq<|S.back hbq ?_;replace hg:=hg_q;replace hR:=hR_q
  try replace ha:=ha_q
  clear hg_q hR_q;refine S.region rfl<|O.q 2 rfl<|O.nil ?_;exact S.rt results116 rfl hR ⟨⟨hone,fun j h=>hx2 j h h⟩,b7,rfl,rfl⟩
end Go.Proofs.YtodhbhanmdfdeaaGreat
