/- Texts of this proof. -/
import Derived.Test.YtodhbhanmdfdeaaGreatQLent2
open Go Go.Sp Go.Proofs.Tryz
set_option maxRecDepth 100000
set_option maxHeartbeats 1000000
attribute [local irreducible] obj Own OwnP
namespace Go.Proofs.YtodhbhanmdfdeaaGreat
theorem markRoot_c {r:Fr} (k i:Int) (hk:Mk k) (hi:Mk i):Con prog 140 #[.int .i64 k,.int .i64 i] r [] (Ret fun v η=>v=.agg #[.int .i64 0,.int .i64 0,.int .i64 (markZ k i),.slice none 0 0,.slice none 0 0]∧η=[]):=by
 refine Con.of (n:=9) _ rfl func140 rfl rfl rfl fun g hg R hR=>?_;refine S.seq<|S.region rfl<|O.opE (.p rfl) (.alloc (cs:=[.int .i64 0,.int .i64 0,.int .i64 0,.slice none 0 0,.slice none 0 0]) zeroValue52 rfl) ?_;rintro _ _ ⟨b4,rfl,rfl⟩;refine O.nil<|S.seq<|S.region rfl<|O.q 2 rfl<|O.call0 (.p rfl) rfl zD rfl rfl ((mark_c _ _ hk hi)) ?_;rintro _ _ ⟨rfl,rfl⟩
 try simp only [zx1,zx2,zx3]
 refine O.op (.p rfl) (.build (cs:=[_,_,_,_,_]) underlying52 rfl rfl rfl rfl rfl)<|O.opU rfl (.storeObj zD rfl rfl rfl rfl zB zL) ?_;refine O.nil<|S.retCellAgg results140 isAgg52 zD rfl zB fun w hw=>Holds.end_ hR hw ?_;exact pk ⟨rfl,rfl⟩
theorem markRoot_rel {h:Fr} {k i:Int} (hk:Mk k) (hi:Mk i):RootRp.rel h [.int .i64 0,.int .i64 0,.int .i64 (markZ k i),.slice none 0 0,.slice none 0 0] (markRoot k i):=RootRp.mk zV zV (markZ64 hk hi) Arr.nil Arr.nil
theorem markEvidence_c {r:Fr} (k i:Int) (hk:Mk k) (hi:Mk i):Con prog 142 #[.int .i64 k,.int .i64 i] r [] (Ret fun v η=>v=.agg #[.int .i64 0,.int .i64 0,.int .i64 (markZ k i),.slice none 0 0,.slice none 0 0,.int .i64 0,.int .i64 0,.int .i64 0,.slice none 0 0,.slice none 0 0]∧η=[]):=by
 refine Con.of (n:=10) _ rfl func142 rfl rfl rfl fun g hg R hR=>?_;refine S.seq<|S.region rfl<|O.opE (.p rfl) (.alloc (cs:=[.int .i64 0,.int .i64 0,.int .i64 0,.slice none 0 0,.slice none 0 0,.int .i64 0,.int .i64 0,.int .i64 0,.slice none 0 0,.slice none 0 0]) zeroValue55 rfl) ?_;rintro _ _ ⟨b4,rfl,rfl⟩;refine O.nil<|S.seq<|S.region rfl<|O.q 2 rfl<|O.call0 (.p rfl) rfl zD rfl rfl ((mark_c _ _ hk hi)) ?_;rintro _ _ ⟨rfl,rfl⟩
 try simp only [zx1,zx2,zx3]
 refine O.op (.p rfl) (.build (cs:=[_,_,_,_,_]) underlying52 rfl rfl rfl rfl rfl)<|O.op (.p rfl) (.build (cs:=[_,_,_,_,_,_,_,_,_,_]) underlying55 rfl rfl rfl rfl rfl)<|O.opU rfl (.storeObj zD rfl rfl rfl rfl zB zL) ?_;refine O.nil<|S.retCellAgg results142 isAgg55 zD rfl zB fun w hw=>Holds.end_ hR hw ?_;exact pk ⟨rfl,rfl⟩
theorem markEvidence_rel {h:Fr} {k i:Int} (hk:Mk k) (hi:Mk i):EvdRp.rel h [.int .i64 0,.int .i64 0,.int .i64 (markZ k i),.slice none 0 0,.slice none 0 0,.int .i64 0,.int .i64 0,.int .i64 0,.slice none 0 0,.slice none 0 0] (markEvd k i):=EvdRp.mk zV zV (markZ64 hk hi) Arr.nil Arr.nil zV zV zV Arr.nil Arr.nil
theorem recG_sat {x:RecT} {v3 v5 v6:Value} {m:Fr} (h:recOk x=true) (hs:Sat (recWs x v3 v5 v6) m):(RecG tys).own (recV x v3 v5 v6) x m:=by
 have h1:=shaped_iff.1 (recOk_iff.1 h).1;have hd:=dotOk_iff.1 h1.2.2.1;simp only [rDot] at hd;exact RecG.mk zC ⟨by omega,by omega⟩ ⟨by omega,by omega⟩ hs
theorem be_take (n:Int) (j:Nat) (h:j<8):(be n).take j++[beAt n (7 - j)]=(be n).take (j+1):=by
 match j,h with
 |0,_|1,_|2,_|3,_|4,_|5,_|6,_|7,_=>rfl
theorem be_take_len (n:Int) (j:Nat) (h:j≤8):((be n).take j).length=j:=by rw [List.length_take,be_length];omega
theorem refNumber_c {r:Fr} (n:Int):Con prog 63 #[.int .i64 n] r [] (Ret fun v η=>∃ a c,v=.slice a 8 c∧η=[OwnP Rp.u8 5 v (be n)]):=by
 refine Con.of (n:=20) _ rfl func63 rfl rfl rfl fun g hg R hR=>?_;refine S.addNil (T:=Rp.u8) (e:=5) ?_;refine S.seq<|S.region rfl<|O.q 1 rfl<|O.nil<|S.seq<|S.region rfl<|O.q 1 rfl<|O.nil<|S.seq<|S.seq<|S.region rfl<|O.q 1 rfl<|O.nil<|S.block<|S.loopK3 (ι:=Nat) (κ:=Option Addr) (υ:=Nat) (fun j a c=>j≤8) (fun j a c=>[(4,.int .i64 ((7:Int) - (j:Int))),(3,.slice a j c)]) [(0,_)] (fun j a c=>[OwnP Rp.u8 5 (.slice a j c) ((be n).take j)]) (fun j a c=>8 - j) (0) (none) (0) zG (.cons rfl (.cons rfl (.nil))) (.cons rfl (.nil)) rfl fun j a c hx ih=>?_;have hm1:=meltRefl (g:=g);refine S.seq<|S.seq<|S.region rfl<|O.q 1 rfl<|O.op (.p rfl) (.geq rfl rfl)<|O.nil ?_
 first|refine S.condD rfl (fun h6=>?_) (fun h6=>?_)|refine S.condB rfl (fun h6=>?_) (fun h6=>?_)
 ·have hj:j<8:=by omega
  have hl:=be_take_len n j zC;have hw:IntKind.u64.wrap (8*(7 - (j:Int)))=8*(7 - (j:Int)):=by rw [wrap_u64_eq];unfold u64;omega
  refine S.skip<|S.seq<|S.block<|S.region rfl<|O.q 2 rfl<|O.op (.p rfl) (.cvt underlying3 underlying195 rfl)<|O.q 1 rfl<|O.op (.p rfl) (.mul rfl rfl (IntWalk.i64_in _ zC))<|O.op (.p rfl) (.cvt underlying3 underlying57 rfl)<|O.op (.p rfl) (.shr rfl rfl zC)<|O.op (.p rfl) (.cvt underlying195 underlying5 rfl)<|O.opE (.p rfl) (.litP (T:=Rp.u8) (ys:=[beAt n (7 - j)]) underlying31 elem5 zF rfl rfl ⟨congrArg (fun v=>[v]) (by simp only [byteV];rw [shift_byte n (7 - j) zC _ (by rw [wrap_u64_eq];unfold u64;omega)]),trivial⟩ zF) ?_;rintro _ _ ⟨a17,c17,rfl,rfl⟩;refine O.frzA zB fun g hs hm ha17=>?_;replace hg:=Fr.sub_trans hg hs;replace hR:=melted hR hm;replace hm1:=meltTrans hm1 hm;clear hs hm;refine O.opE (.p rfl) (.appendP (T:=Rp.u8) pure_u8 underlying31 elem5 zF rfl rfl zB (by first|assumption|exact Arr.mono hg zE|exact Arr.left zE|exact Arr.left (Arr.mono hg zE)) zK zK) ?_;rintro _ _ ⟨a18,c18,rfl,rfl⟩;refine O.q 1 rfl<|O.nil<|S.inBlock<|S.region rfl<|O.q 1 rfl<|O.op (.p rfl) (.sub rfl rfl (IntWalk.i64_in _ zC))<|O.q 1 rfl<|O.nil ?_;rw [be_take n j hj,hl];refine S.slot 4 (v' :=.int .i64 ((7:Int) - ((j+1:Nat):Int))) rfl (congrArg _ zC) ?_;exact S.melt hm1 (S.wk (ih (j+1) (a18) (c18) zC zC))
 ·have hj:j=8:=by omega
  subst hj;refine S.exit rfl<|S.seq<|S.region rfl<|O.q 2 rfl<|O.nil<|S.ret results63 rfl fun w hw=>hR _ _ w ?_ hw;exact ⟨a,c,rfl,rfl⟩
theorem refBytes_c {r:Fr} {va:Value} {xs:List UInt8} (ha:Arr Rp.u8 r va xs) (hl:xs.length≤100000000000000) :
  Con prog 65 #[va] r [] (Ret fun v η=>∃ a c,v=.slice a (bytesOf xs).length c∧η=[OwnP Rp.u8 5 v (bytesOf xs)]):=by
 refine Con.of (n:=8) _ rfl func65 rfl rfl rfl fun g hg R hR=>?_;have ha:=ha.mono hg;obtain ⟨a1,c1,rfl⟩:=ha.shape;refine S.seq<|S.region rfl<|O.q 1 rfl<|O.nil<|S.seq<|S.region rfl<|O.q 1 rfl<|O.op (.p rfl) (.len rfl underlying31 rfl)<|O.call0 (.p rfl) rfl zD rfl rfl (refNumber_c _) ?_;rintro _ _ ⟨a5,c5,rfl,rfl⟩
 try simp only [zx1,zx2,zx3]
 refine O.q 1 rfl<|O.opE (.p rfl) (.appendP (T:=Rp.u8) pure_u8 underlying31 elem5 zF rfl rfl zB (by first|assumption|exact Arr.mono hg zE|exact Arr.left zE|exact Arr.left (Arr.mono hg zE)) zK zK) ?_;rintro _ _ ⟨a7,c7,rfl,rfl⟩;refine O.q 1 rfl<|O.nil<|S.ret results65 rfl fun w hw=>hR _ _ w ?_ hw;exact ⟨a7,c7,by simp [bytesOf],by simp [bytesOf]⟩
theorem refJoin_c {r:Fr} {va:Value} {xss:List (List UInt8)} (ha:Arr (Rp.slice Rp.u8) r va xss) (hl:xss.flatten.length≤140737488355328) :
  Con prog 64 #[va] r [] (Ret fun v η=>∃ a c,v=.slice a xss.flatten.length c∧η=[OwnP Rp.u8 5 v xss.flatten]):=by
 refine Con.of (n:=18) _ rfl func64 rfl rfl rfl fun g hg R hR=>?_;have ha:=ha.mono hg;have hbd:=ha.bound;obtain ⟨a1,c1,rfl⟩:=ha.shape;refine S.addNil (T:=Rp.u8) (e:=5) ?_;refine S.seq<|S.region rfl<|O.q 1 rfl<|O.nil<|S.seq<|S.region rfl<|O.q 1 rfl<|O.nil<|S.seq<|S.seq<|S.region rfl<|O.q 1 rfl<|O.nil<|S.block<|S.loopK4 (ι:=Nat) (κ:=Option Addr) (υ:=Nat) (τ:=Nat) (fun i a6 m6 c6=>i≤xss.length∧m6=(xss.take i).flatten.length) (fun i a6 m6 c6=>[(4,.int .i64 (i:Int)),(3,.slice a6 m6 c6)]) [(0,_)] (fun i a6 m6 c6=>[OwnP Rp.u8 5 (.slice a6 m6 c6) (xss.take i).flatten]) (fun i a6 m6 c6=>xss.length - i) (0) (none) (0) (0) zG (.cons rfl (.cons rfl (.nil))) (.cons rfl (.nil)) rfl fun i a6 m6 c6 hx ih=>?_;have hm1:=meltRefl (g:=g);obtain ⟨hx1,hs⟩:=hx;refine S.seq<|S.seq<|S.region rfl<|O.q 2 rfl<|O.op (.p rfl) (.len rfl underlying39 rfl)<|O.op (.p rfl) (.lss rfl rfl)<|O.nil ?_
 first|refine S.condD rfl (fun h8=>?_) (fun h8=>?_)|refine S.condB rfl (fun h8=>?_) (fun h8=>?_)
 ·have hi:i<xss.length:=by omega
  have h1:=flat_len xss i hi;have h2:=flat_le xss (i+1);have h3:(xss.take (i+1)).flatten.length=(xss.take i).flatten.length+xss[i].length:=by rw [h1,List.length_append]
  refine S.skip<|S.seq<|S.block<|S.region rfl<|O.q 3 rfl<|O.ia (.p rfl) underlying39 size31 rfl rfl rfl (by first|assumption|exact Arr.mono hg zE|exact Arr.left zE|exact Arr.left (Arr.mono hg zE)) (h:=fun p14 cs14 hp14 hr14=>?_);obtain ⟨v14,rfl,ha14⟩:=hr14;obtain ⟨a14,c14,rfl⟩:=ha14.shape;refine O.op (.p rfl) (.loadAt flat31 rfl hp14 rfl) ?_;refine O.opE (.p rfl) (.appendP (T:=Rp.u8) pure_u8 underlying31 elem5 zF rfl rfl zB (by first|assumption|exact Arr.mono hg zE|exact Arr.left zE|exact Arr.left (Arr.mono hg zE)) zK zK) ?_;rintro _ _ ⟨a16,c16,rfl,rfl⟩;refine O.q 1 rfl<|O.nil<|S.inBlock<|S.region rfl<|O.q 1 rfl<|O.op (.p rfl) (.add rfl rfl (IntWalk.i64_in _ zC))<|O.q 1 rfl<|O.nil ?_;rw [← h1];exact S.wk (ih (i+1) (a16) ((xss.take i).flatten.length+xss[i].length) (c16) zC zC)
 ·have hi:i=xss.length:=by omega
  subst hi;rw [List.take_length] at hs;subst hs;refine S.exit rfl<|S.seq<|S.region rfl<|O.q 2 rfl<|O.nil<|S.ret results64 rfl fun w hw=>hR _ _ w ?_ hw;exact ⟨a6,c6,rfl,by rw [List.take_length]⟩
theorem r7dot_c {r:Fr} {a b:Int} (d:DotT) (h:d=(a,b,())):Con prog 286 #[.agg #[.int .i64 a,.int .i64 b]] r [] (Ret fun v η=>v=.bool (dotOk d)∧η=[]):=by
 subst h;refine Con.of (n:=21) _ rfl func286 rfl rfl rfl fun g hg R hR=>?_;refine S.seq<|S.region rfl<|O.opE (.p rfl) (.box (cs:=[_,_]) rfl rfl) ?_;rintro _ _ ⟨b1,rfl,rfl⟩;refine O.q 1 rfl<|O.nil<|S.seq<|S.region rfl<|O.op (.p rfl) (.fieldObj fld166x0 rfl)<|O.op (.p rfl) (.lo flat3) ?_;refine O.op (.p rfl) (.geq rfl rfl)<|O.q 1 rfl ?_
 first|refine O.caseD 6 rfl (fun h6=>?_) (fun h6=>?_)|refine O.caseB 6 rfl (fun h6=>?_) (fun h6=>?_)
 ·refine O.op (.g rfl rfl) (.fieldObj fld166x0 rfl)<|O.op (.g rfl rfl) (.lo flat3) ?_
  refine O.op (.g rfl rfl) (.leq rfl rfl)<|O.q 2 rfl ?_
  first|refine O.caseD 11 rfl (fun h11=>?_) (fun h11=>?_)|refine O.caseB 11 rfl (fun h11=>?_) (fun h11=>?_)
  ·refine O.op (.g rfl rfl) (.fieldObj fld166x1 rfl)<|O.op (.g rfl rfl) (.lo flat3) ?_
   refine O.op (.g rfl rfl) (.geq rfl rfl)<|O.q 2 rfl ?_
   first|refine O.caseD 16 rfl (fun h16=>?_) (fun h16=>?_)|refine O.caseB 16 rfl (fun h16=>?_) (fun h16=>?_)
   ·refine O.op (.g rfl rfl) (.fieldObj fld166x1 rfl)<|O.op (.g rfl rfl) (.lo flat3) ?_
    refine O.op (.g rfl rfl) (.leq rfl rfl)<|O.q 2 rfl<|O.nil<|S.ret results286 rfl fun w hw=>Holds.end_ hR hw ?_
    first|exact ⟨_,⟨congrArg _ (decide_eq_false zW).symm,rfl⟩,by repeat (first|exact zpa|exact zpn|(apply zpc;focus (repeat (first|exact zh|apply zt)))|apply zps)⟩|exact ⟨_,⟨congrArg _ (decide_eq_decide.2 zW),rfl⟩,by repeat (first|exact zpa|exact zpn|(apply zpc;focus (repeat (first|exact zh|apply zt)))|apply zps)⟩
   ·refine O.q 5 rfl<|O.nil<|S.ret results286 rfl fun w hw=>Holds.end_ hR hw ?_
    first|exact ⟨_,⟨congrArg _ (decide_eq_false zW).symm,rfl⟩,by repeat (first|exact zpa|exact zpn|(apply zpc;focus (repeat (first|exact zh|apply zt)))|apply zps)⟩|exact ⟨_,⟨congrArg _ (decide_eq_decide.2 zW),rfl⟩,by repeat (first|exact zpa|exact zpn|(apply zpc;focus (repeat (first|exact zh|apply zt)))|apply zps)⟩
  ·refine O.q 10 rfl<|O.nil<|S.ret results286 rfl fun w hw=>Holds.end_ hR hw ?_
   first|exact ⟨_,⟨congrArg _ (decide_eq_false zW).symm,rfl⟩,by repeat (first|exact zpa|exact zpn|(apply zpc;focus (repeat (first|exact zh|apply zt)))|apply zps)⟩|exact ⟨_,⟨congrArg _ (decide_eq_decide.2 zW),rfl⟩,by repeat (first|exact zpa|exact zpn|(apply zpc;focus (repeat (first|exact zh|apply zt)))|apply zps)⟩
 ·refine O.q 15 rfl<|O.nil<|S.ret results286 rfl fun w hw=>Holds.end_ hR hw ?_
  first|exact ⟨_,⟨congrArg _ (decide_eq_false zW).symm,rfl⟩,by repeat (first|exact zpa|exact zpn|(apply zpc;focus (repeat (first|exact zh|apply zt)))|apply zps)⟩|exact ⟨_,⟨congrArg _ (decide_eq_decide.2 zW),rfl⟩,by repeat (first|exact zpa|exact zpn|(apply zpc;focus (repeat (first|exact zh|apply zt)))|apply zps)⟩
theorem r7right_c {r:Fr} {va:Value} {v:List DotT} (ha:Arr DotRp r va v):Con prog 287 #[va] r [] (Ret fun u η=>u=.bool (vecOk v)∧η=[]):=by
 refine Con.of (n:=34) _ rfl func287 rfl rfl rfl fun g hg R hR=>?_;have ha:=ha.mono hg;have hbd:=ha.bound;obtain ⟨a1,c1,rfl⟩:=ha.shape;refine S.seq<|S.region rfl<|O.q 1 rfl<|O.nil<|S.seq<|S.seq<|S.region rfl<|O.q 1 rfl<|O.nil<|S.block<|S.loopK (ι:=Nat) (fun k=>k≤v.length∧vecOk (v.take k)=true) (fun k=>[(3,.int .i64 (k:Int))]) [(0,_)] (fun k=>[]) (fun k=>v.length - k) (0) zP (.cons rfl (.nil)) (.cons rfl (.nil)) rfl fun k hx ih=>?_;have hm1:=meltRefl (g:=g);obtain ⟨hx1,hx2⟩:=hx;refine S.seq<|S.seq<|S.region rfl<|O.q 2 rfl<|O.op (.p rfl) (.len rfl underlying72 rfl)<|O.op (.p rfl) (.lss rfl rfl)<|O.nil ?_
 first|refine S.condD rfl (fun h7=>?_) (fun h7=>?_)|refine S.condB rfl (fun h7=>?_) (fun h7=>?_)
 ·have hk:k<v.length:=by omega
  have hst:=vecOk_step hk hx2
  by_cases hd:dotOk v[k]=true
  ·by_cases h0:k=0
   ·
    refine S.skip<|S.seq<|S.block<|S.seq<|S.regionD (L:=[0,1,2,3,4,5,6,7,8,9,10,11,12,13,14,15,16,17,18,19,20,21,22,23]) F.mixed zD<|OD.q 2 rfl<|OD.ia (.p rfl) underlying72 size166 rfl rfl rfl (by first|assumption|exact Arr.mono hg zE|exact Arr.left zE|exact Arr.left (Arr.mono hg zE)) (h:=fun p12 cs12 hp12 hr12=>?_);obtain ⟨rfl,hi12,hj12⟩:=DotRp.open hr12;refine .quiet (.p rfl) rfl (fun _=>.loadAgg isAgg166 zD rfl hp12) ?_;refine OD.call0 (.p rfl) zD rfl zD rfl rfl ((r7dot_c v[k] rfl)) ?_;rintro _ _ ⟨rfl,rfl⟩
    try simp only [zx1,zx2,zx3]
    refine OD.sT 14 rfl (by exact hd) ?_;refine .quiet (.p rfl) rfl (fun _=>.not rfl)<|OD.q 2 rfl<|.quiet (.g rfl rfl) rfl (fun _=>.gtr rfl rfl)<|OD.sF 18 rfl (by exact decide_eq_false zC) ?_;refine OD.q 15 rfl<|ODx.nil<|S.condF rfl<|S.skip<|S.inBlock<|S.region rfl<|O.q 1 rfl<|O.op (.p rfl) (.add rfl rfl (IntWalk.i64_in _ zC))<|O.q 1 rfl<|O.nil ?_;exact S.wk (ih (k+1) (by exact ⟨by omega,hst.2 ⟨hd,fun h=>absurd h zC⟩⟩) zC)
   ·have hk1:k - 1<v.length:=by omega
    by_cases hlt:v[k - 1].1<v[k].1
    ·
     refine S.skip<|S.seq<|S.block<|S.seq<|S.regionD (L:=[0,1,2,3,4,5,6,7,8,9,10,11,12,13,14,15,16,17,18,19,20,21,22,23]) F.mixed zD<|OD.q 2 rfl<|OD.ia (.p rfl) underlying72 size166 rfl rfl rfl (by first|assumption|exact Arr.mono hg zE|exact Arr.left zE|exact Arr.left (Arr.mono hg zE)) (h:=fun p12 cs12 hp12 hr12=>?_);obtain ⟨rfl,hi12,hj12⟩:=DotRp.open hr12;refine .quiet (.p rfl) rfl (fun _=>.loadAgg isAgg166 zD rfl hp12) ?_;refine OD.call0 (.p rfl) zD rfl zD rfl rfl ((r7dot_c v[k] rfl)) ?_;rintro _ _ ⟨rfl,rfl⟩
     try simp only [zx1,zx2,zx3]
     refine OD.sT 14 rfl (by exact hd) ?_;refine .quiet (.p rfl) rfl (fun _=>.not rfl)<|OD.q 2 rfl<|.quiet (.g rfl rfl) rfl (fun _=>.gtr rfl rfl)<|OD.sT 18 rfl (by exact decide_eq_true zC) ?_;refine OD.q 3 rfl<|.quiet (.g rfl rfl) rfl (fun _=>.sub rfl rfl (IntWalk.i64_in _ zC))<|OD.ia (.g rfl rfl) underlying72 size166 rfl rfl (show _=(((k - 1):Nat):Int) by omega) (by first|assumption|exact Arr.mono hg zE|exact Arr.left zE|exact Arr.left (Arr.mono hg zE)) (h:=fun p23 cs23 hp23 hr23=>?_);obtain ⟨rfl,hi23,hj23⟩:=DotRp.open hr23;refine .quiet (.g rfl rfl) rfl (fun _=>.fieldAddr fld166x0 rfl)<|.quiet (.g rfl rfl) rfl (fun _=>.loadAt flat3 rfl hp23 rfl) ?_;refine OD.q 2 rfl<|OD.ia (.g rfl rfl) underlying72 size166 rfl rfl rfl (by first|assumption|exact Arr.mono hg zE|exact Arr.left zE|exact Arr.left (Arr.mono hg zE)) (h:=fun p28 cs28 hp28 hr28=>?_);obtain ⟨rfl,hi28,hj28⟩:=DotRp.open hr28;refine .quiet (.g rfl rfl) rfl (fun _=>.fieldAddr fld166x0 rfl)<|.quiet (.g rfl rfl) rfl (fun _=>.loadAt flat3 rfl hp28 rfl) ?_;refine .quiet (.g rfl rfl) rfl (fun _=>.geq rfl rfl)<|OD.sF 31 rfl (by exact decide_eq_false zC) ?_;refine OD.q 2 rfl<|ODx.nil<|S.condF rfl<|S.skip<|S.inBlock<|S.region rfl<|O.q 1 rfl<|O.op (.p rfl) (.add rfl rfl (IntWalk.i64_in _ zC))<|O.q 1 rfl<|O.nil ?_;exact S.wk (ih (k+1) (by exact ⟨by omega,hst.2 ⟨hd,fun _=>hlt⟩⟩) zC)
    ·
     refine S.skip<|S.seq<|S.block<|S.seq<|S.regionD (L:=[0,1,2,3,4,5,6,7,8,9,10,11,12,13,14,15,16,17,18,19,20,21,22,23]) F.mixed zD<|OD.q 2 rfl<|OD.ia (.p rfl) underlying72 size166 rfl rfl rfl (by first|assumption|exact Arr.mono hg zE|exact Arr.left zE|exact Arr.left (Arr.mono hg zE)) (h:=fun p12 cs12 hp12 hr12=>?_);obtain ⟨rfl,hi12,hj12⟩:=DotRp.open hr12;refine .quiet (.p rfl) rfl (fun _=>.loadAgg isAgg166 zD rfl hp12) ?_;refine OD.call0 (.p rfl) zD rfl zD rfl rfl ((r7dot_c v[k] rfl)) ?_;rintro _ _ ⟨rfl,rfl⟩
     try simp only [zx1,zx2,zx3]
     refine OD.sT 14 rfl (by exact hd) ?_;refine .quiet (.p rfl) rfl (fun _=>.not rfl)<|OD.q 2 rfl<|.quiet (.g rfl rfl) rfl (fun _=>.gtr rfl rfl)<|OD.sT 18 rfl (by exact decide_eq_true zC) ?_;refine OD.q 3 rfl<|.quiet (.g rfl rfl) rfl (fun _=>.sub rfl rfl (IntWalk.i64_in _ zC))<|OD.ia (.g rfl rfl) underlying72 size166 rfl rfl (show _=(((k - 1):Nat):Int) by omega) (by first|assumption|exact Arr.mono hg zE|exact Arr.left zE|exact Arr.left (Arr.mono hg zE)) (h:=fun p23 cs23 hp23 hr23=>?_);obtain ⟨rfl,hi23,hj23⟩:=DotRp.open hr23;refine .quiet (.g rfl rfl) rfl (fun _=>.fieldAddr fld166x0 rfl)<|.quiet (.g rfl rfl) rfl (fun _=>.loadAt flat3 rfl hp23 rfl) ?_;refine OD.q 2 rfl<|OD.ia (.g rfl rfl) underlying72 size166 rfl rfl rfl (by first|assumption|exact Arr.mono hg zE|exact Arr.left zE|exact Arr.left (Arr.mono hg zE)) (h:=fun p28 cs28 hp28 hr28=>?_);obtain ⟨rfl,hi28,hj28⟩:=DotRp.open hr28;refine .quiet (.g rfl rfl) rfl (fun _=>.fieldAddr fld166x0 rfl)<|.quiet (.g rfl rfl) rfl (fun _=>.loadAt flat3 rfl hp28 rfl) ?_;refine .quiet (.g rfl rfl) rfl (fun _=>.geq rfl rfl)<|OD.sT 31 rfl (by exact decide_eq_true zC) ?_;refine OD.q 2 rfl<|ODx.nil<|S.condT rfl<|S.seq<|S.region rfl<|O.q 1 rfl<|O.nil ?_;exact S.rt results287 rfl hR ⟨congrArg _ (vecOk_none (i:=k+1) (Bool.eq_false_iff.2 fun e=>hlt ((hst.1 e).2 zC))).symm,rfl⟩
  ·have hd' :dotOk v[k]=false:=by simpa using hd
   refine S.skip<|S.seq<|S.block<|S.seq<|S.regionD (L:=[0,1,2,3,4,5,6,7,8,9,10,11,12,13,14,15,16,17,18,19,20,21,22,23]) F.mixed zD<|OD.q 2 rfl<|OD.ia (.p rfl) underlying72 size166 rfl rfl rfl (by first|assumption|exact Arr.mono hg zE|exact Arr.left zE|exact Arr.left (Arr.mono hg zE)) (h:=fun p12 cs12 hp12 hr12=>?_);obtain ⟨rfl,hi12,hj12⟩:=DotRp.open hr12;refine .quiet (.p rfl) rfl (fun _=>.loadAgg isAgg166 zD rfl hp12) ?_;refine OD.call0 (.p rfl) zD rfl zD rfl rfl ((r7dot_c v[k] rfl)) ?_;rintro _ _ ⟨rfl,rfl⟩
   try simp only [zx1,zx2,zx3]
   refine OD.sF 14 rfl (by exact hd') ?_;refine .quiet (.p rfl) rfl (fun _=>.not rfl)<|OD.q 18 rfl<|ODx.nil<|S.condT rfl<|S.seq<|S.region rfl<|O.q 1 rfl<|O.nil ?_;exact S.rt results287 rfl hR ⟨congrArg _ (vecOk_none (i:=k+1) (Bool.eq_false_iff.2 fun e=>hd (hst.1 e).1)).symm,rfl⟩
 ·clear ih
  have hk:k=v.length:=by omega
  subst hk;rw [List.take_length] at hx2;refine S.exit rfl<|S.seq<|S.region rfl<|O.q 1 rfl<|O.nil ?_;exact S.rt results287 rfl hR ⟨by rw [hx2],rfl⟩
theorem r7up_c {r:Fr} {va:Value} {v:List DotT} (c:Int) (ha:Arr DotRp r va v) (ho:vecOk v=true) :
  Con prog 288 #[va,.int .i64 c] r [] (Ret fun u η=>∃ z,u=.int .i64 z∧(∀ s,1≤s→decide (s≤z)=hasM v (c,s,()))∧η=[]):=by
 have hri:=(vecOk_iff.1 ho).2;refine Con.of (n:=24) _ rfl func288 rfl rfl rfl fun g hg R hR=>?_;have ha:=ha.mono hg;have hbd:=ha.bound;obtain ⟨a1,c1,rfl⟩:=ha.shape;refine S.seq<|S.region rfl<|O.q 1 rfl<|O.nil<|S.seq<|S.seq<|S.region rfl<|O.q 1 rfl<|O.nil<|S.block<|S.loopK (ι:=Nat) (fun k=>k≤v.length∧∀ x∈v.take k,¬ x.1=c) (fun k=>[(5,.int .i64 (k:Int))]) [(0,_),(1,_)] (fun k=>[]) (fun k=>v.length - k) (0) (by exact ⟨by simp,by simp⟩) (.cons rfl (.nil)) (.cons rfl (.cons rfl (.nil))) rfl fun k hx ih=>?_;have hm1:=meltRefl (g:=g);obtain ⟨hx1,hx2⟩:=hx;refine S.seq<|S.seq<|S.region rfl<|O.q 2 rfl<|O.op (.p rfl) (.len rfl underlying72 rfl)<|O.op (.p rfl) (.lss rfl rfl)<|O.nil ?_
 first|refine S.condD rfl (fun h9=>?_) (fun h9=>?_)|refine S.condB rfl (fun h9=>?_) (fun h9=>?_)
 ·have hk:k<v.length:=by omega
  by_cases e:v[k].1=c
  ·
   refine S.skip<|S.seq<|S.block<|S.seq<|S.region rfl<|O.q 2 rfl<|O.ia (.p rfl) underlying72 size166 rfl rfl rfl (by first|assumption|exact Arr.mono hg zE|exact Arr.left zE|exact Arr.left (Arr.mono hg zE)) (h:=fun p14 cs14 hp14 hr14=>?_);obtain ⟨rfl,hi14,hj14⟩:=DotRp.open hr14;refine O.op (.p rfl) (.fieldAddr fld166x0 rfl)<|O.op (.p rfl) (.loadAt flat3 rfl hp14 rfl) ?_;refine O.q 1 rfl<|O.op (.p rfl) (.eql rfl rfl)<|O.sT 18 rfl (by exact decide_eq_true e) ?_;refine O.nil<|S.condT rfl<|S.seq<|S.region rfl<|O.q 2 rfl<|O.ia (.p rfl) underlying72 size166 rfl rfl rfl (by first|assumption|exact Arr.mono hg zE|exact Arr.left zE|exact Arr.left (Arr.mono hg zE)) (h:=fun p21 cs21 hp21 hr21=>?_);obtain ⟨rfl,hi21,hj21⟩:=DotRp.open hr21;refine O.op (.p rfl) (.fieldAddr fld166x1 rfl)<|O.op (.p rfl) (.loadAt flat3 rfl (hp21.drop 1) rfl) ?_;refine O.q 1 rfl<|O.nil ?_;exact S.rt results288 rfl hR ⟨_,rfl,fun s _=>(hasM_at (d:=(c,s,())) hri hk e).symm,rfl⟩
  ·
   refine S.skip<|S.seq<|S.block<|S.seq<|S.region rfl<|O.q 2 rfl<|O.ia (.p rfl) underlying72 size166 rfl rfl rfl (by first|assumption|exact Arr.mono hg zE|exact Arr.left zE|exact Arr.left (Arr.mono hg zE)) (h:=fun p14 cs14 hp14 hr14=>?_);obtain ⟨rfl,hi14,hj14⟩:=DotRp.open hr14;refine O.op (.p rfl) (.fieldAddr fld166x0 rfl)<|O.op (.p rfl) (.loadAt flat3 rfl hp14 rfl) ?_;refine O.q 1 rfl<|O.op (.p rfl) (.eql rfl rfl)<|O.sF 18 rfl (by exact decide_eq_false e) ?_;refine O.nil<|S.condF rfl<|S.skip<|S.inBlock<|S.region rfl<|O.q 1 rfl<|O.op (.p rfl) (.add rfl rfl (IntWalk.i64_in _ zC))<|O.q 1 rfl<|O.nil ?_;exact S.wk (ih (k+1) (by exact ⟨by omega,mem_take_succ hk hx2 e⟩) zC)
 ·clear ih
  have hk:k=v.length:=by omega
  subst hk;rw [List.take_length] at hx2;refine S.exit rfl<|S.seq<|S.region rfl<|O.q 1 rfl<|O.nil ?_;exact S.rt results288 rfl hR ⟨0,rfl,fun s hs=>by rw [decide_eq_false zC];exact (List.any_eq_false.2 fun x hx=>by simp [hx2 x hx]).symm,rfl⟩
theorem r7has_c {r:Fr} {va:Value} {v:List DotT} {a b:Int} (d:DotT) (h:d=(a,b,())) (ha:Arr DotRp r va v) :
  Con prog 216 #[va,.agg #[.int .i64 a,.int .i64 b]] r [] (Ret fun u η=>u=.bool (hasR v d)∧η=[]):=by
 subst h;refine Con.of (n:=20) _ rfl func216 rfl rfl rfl fun g hg R hR=>?_;have ha:=ha.mono hg;obtain ⟨a1,c1,rfl⟩:=ha.shape;refine S.seq<|S.region rfl<|O.opE (.p rfl) (.box (cs:=[_,_]) rfl rfl) ?_;rintro _ _ ⟨b3,rfl,rfl⟩;refine O.q 1 rfl<|O.nil<|S.seq<|S.frzO zB fun g hs hm hb3=>?_;replace hg:=Fr.sub_trans hg hs;replace hR:=melted hR hm
 try replace ha:=ha.mono hs
 clear hs hm
 cases e1:vecOk v with
 |false =>
  refine S.regionD (L:=[0,1,2,3,4,5,6,7,8,9,11,12,10,13,14,15]) F.mixed zD ?_;refine OD.q 1 rfl<|OD.call0 (.p rfl) zD rfl zD rfl rfl ((r7right_c ha)) ?_;rintro _ _ ⟨rfl,rfl⟩
  try simp only [zx1,zx2,zx3]
  refine OD.sF 6 rfl (by exact e1) ?_;refine OD.q 14 rfl<|ODx.nil ?_;exact S.rt results216 rfl hR ⟨by simp [hasR,e1],rfl⟩
 |true =>
  cases e2:dotOk (a,b,()) with
  |false =>
   refine S.regionD (L:=[0,1,2,3,4,5,6,7,8,9,11,12,10,13,14,15]) F.mixed zD ?_;refine OD.q 1 rfl<|OD.call0 (.p rfl) zD rfl zD rfl rfl ((r7right_c ha)) ?_;rintro _ _ ⟨rfl,rfl⟩
   try simp only [zx1,zx2,zx3]
   refine OD.sT 6 rfl (by exact e1) ?_;refine OD.q 1 rfl<|.quiet (.g rfl rfl) rfl (fun _=>.loadAgg isAgg166 zD rfl hb3) ?_;refine OD.call0 (.g rfl rfl) zD rfl zD rfl rfl ((r7dot_c _ rfl)) ?_;rintro _ _ ⟨rfl,rfl⟩
   try simp only [zx1,zx2,zx3]
   refine OD.sF 9 rfl (by exact e2) ?_;refine OD.q 11 rfl<|ODx.nil ?_;exact S.rt results216 rfl hR ⟨by simp [hasR,e1,e2],rfl⟩
  |true =>
   have hb:=(dotOk_iff.1 e2).2.2.1;refine S.regionD (L:=[0,1,2,3,4,5,6,7,8,9,11,12,10,13,14,15]) F.mixed zD ?_;refine OD.q 1 rfl<|OD.call0 (.p rfl) zD rfl zD rfl rfl ((r7right_c ha)) ?_;rintro _ _ ⟨rfl,rfl⟩
   try simp only [zx1,zx2,zx3]
   refine OD.sT 6 rfl (by exact e1) ?_;refine OD.q 1 rfl<|.quiet (.g rfl rfl) rfl (fun _=>.loadAgg isAgg166 zD rfl hb3) ?_;refine OD.call0 (.g rfl rfl) zD rfl zD rfl rfl ((r7dot_c _ rfl)) ?_;rintro _ _ ⟨rfl,rfl⟩
   try simp only [zx1,zx2,zx3]
   refine OD.sT 9 rfl (by exact e2) ?_;refine OD.q 3 rfl<|.quiet (.g rfl rfl) rfl (fun _=>.fieldAddr fld166x0 rfl)<|.quiet (.g rfl rfl) rfl (fun _=>.loadAt flat3 rfl hb3 rfl) ?_;refine .quiet (.g rfl rfl) rfl (fun _=>.fieldAddr fld166x1 rfl)<|.quiet (.g rfl rfl) rfl (fun _=>.loadAt flat3 rfl (hb3.drop 1) rfl) ?_;refine OD.call0 (.g rfl rfl) zD rfl zD rfl rfl ((r7up_c _ ha e1)) ?_;rintro v15 _ ⟨z,rfl,hz,rfl⟩
   try simp only [zx1,zx2,zx3]
   refine .quiet (.g rfl rfl) rfl (fun _=>.geq rfl rfl)<|OD.q 2 rfl<|ODx.nil ?_;exact S.rt results216 rfl hR ⟨congrArg _ (by rw [hasR,e1,e2,← hz b hb];rfl),rfl⟩
theorem r8shape_c {r:Fr} {cs:List Value} {x:RecT} (h:RecRp.rel r cs x):Con prog 215 #[.agg cs.toArray] r [] (Ret fun v η=>v=.bool (shaped x)∧η=[]):=by
 obtain ⟨xa3,xa5,xa6,xc3,xc5,xc6,rfl,k0,k1,k2,k3,k5,k6⟩:=RecRp.sh h;have hz0:=str_size x.1;refine Con.of (n:=51) _ rfl func215 rfl rfl rfl fun g hg R hR=>?_;have h:=h.mono hg;have k3:=k3.mono hg;have k5:=k5.mono hg;have k6:=k6.mono hg;refine S.seq<|S.region rfl<|O.opE (.p rfl) (.box (cs:=[_,_,_,_,_,_,_]) rfl rfl) ?_;rintro _ _ ⟨b1,rfl,rfl⟩;refine O.q 1 rfl<|O.nil<|S.seq<|S.frzO zB fun g hs hm hb1=>?_;replace hg:=Fr.sub_trans hg hs;replace hR:=melted hR hm
 try replace h:=h.mono hs
 try replace k3:=k3.mono hs
 try replace k5:=k5.mono hs
 try replace k6:=k6.mono hs
 clear hs hm
 by_cases n0:¬ (1≤x.1.length)
 ·
  refine S.region rfl<|O.op (.p rfl) (.fieldAddr fld74x1 rfl)<|O.op (.p rfl) (.loadAt flat3 rfl (hb1.drop 1) rfl) ?_;refine O.op (.p rfl) (.fieldAddr fld74x2 rfl)<|O.op (.p rfl) (.loadAt flat3 rfl (hb1.drop 2) rfl) ?_;refine O.op (.p rfl) (.build (cs:=[_,_]) underlying166 rfl rfl rfl rfl rfl)<|O.opE (.p rfl) (.alloc (cs:=[.int .i64 0,.int .i64 0]) zeroValue166 rfl) ?_;rintro _ _ ⟨b3,rfl,rfl⟩;refine O.opU rfl (.storeObj zD rfl rfl rfl rfl zB zL) ?_;refine O.nil<|S.seq<|S.seq<|S.frzO zB fun g hs hm hb3=>?_;replace hg:=Fr.sub_trans hg hs;replace hR:=melted hR hm
  try replace h:=h.mono hs
  try replace k3:=k3.mono hs
  try replace k5:=k5.mono hs
  try replace k6:=k6.mono hs
  try replace hb1:=hb1.mono hs
  clear hs hm;refine S.region rfl<|O.op (.p rfl) (.fieldAddr fld74x0 rfl)<|O.op (.p rfl) (.loadAt flat9 rfl hb1 rfl) ?_;refine O.op (.p rfl) (.lenS rfl underlying9 rfl)<|O.op (.p rfl) (.lss rfl rfl)<|O.sT 12 rfl (by exact decide_eq_true (by rw [hz0];omega)) ?_;refine O.q 23 rfl<|O.nil<|S.condT rfl<|S.seq<|S.region rfl<|O.q 1 rfl<|O.nil ?_;exact S.rt results215 rfl hR ⟨congrArg _ (Bool.eq_false_iff.2 fun q=>n0 (shaped_iff.1 q).1).symm,rfl⟩
 have c0:=Classical.not_not.1 n0
 by_cases n1:¬ (x.1.length≤64)
 ·
  refine S.region rfl<|O.op (.p rfl) (.fieldAddr fld74x1 rfl)<|O.op (.p rfl) (.loadAt flat3 rfl (hb1.drop 1) rfl) ?_;refine O.op (.p rfl) (.fieldAddr fld74x2 rfl)<|O.op (.p rfl) (.loadAt flat3 rfl (hb1.drop 2) rfl) ?_;refine O.op (.p rfl) (.build (cs:=[_,_]) underlying166 rfl rfl rfl rfl rfl)<|O.opE (.p rfl) (.alloc (cs:=[.int .i64 0,.int .i64 0]) zeroValue166 rfl) ?_;rintro _ _ ⟨b3,rfl,rfl⟩;refine O.opU rfl (.storeObj zD rfl rfl rfl rfl zB zL) ?_;refine O.nil<|S.seq<|S.seq<|S.frzO zB fun g hs hm hb3=>?_;replace hg:=Fr.sub_trans hg hs;replace hR:=melted hR hm
  try replace h:=h.mono hs
  try replace k3:=k3.mono hs
  try replace k5:=k5.mono hs
  try replace k6:=k6.mono hs
  try replace hb1:=hb1.mono hs
  clear hs hm;refine S.region rfl<|O.op (.p rfl) (.fieldAddr fld74x0 rfl)<|O.op (.p rfl) (.loadAt flat9 rfl hb1 rfl) ?_;refine O.op (.p rfl) (.lenS rfl underlying9 rfl)<|O.op (.p rfl) (.lss rfl rfl)<|O.sF 12 rfl (by exact decide_eq_false (by rw [hz0];omega)) ?_;refine O.q 1 rfl<|O.op (.g rfl rfl) (.fieldAddr fld74x0 rfl)<|O.op (.g rfl rfl) (.loadAt flat9 rfl hb1 rfl) ?_;refine O.op (.g rfl rfl) (.lenS rfl underlying9 rfl)<|O.op (.g rfl rfl) (.gtr rfl rfl)<|O.sT 17 rfl (by exact decide_eq_true (by rw [hz0];omega)) ?_;refine O.q 18 rfl<|O.nil<|S.condT rfl<|S.seq<|S.region rfl<|O.q 1 rfl<|O.nil ?_;exact S.rt results215 rfl hR ⟨congrArg _ (Bool.eq_false_iff.2 fun q=>n1 (shaped_iff.1 q).2.1).symm,rfl⟩
 have c1:=Classical.not_not.1 n1
 by_cases n2:¬ (dotOk (rDot x)=true)
 ·
  refine S.region rfl<|O.op (.p rfl) (.fieldAddr fld74x1 rfl)<|O.op (.p rfl) (.loadAt flat3 rfl (hb1.drop 1) rfl) ?_;refine O.op (.p rfl) (.fieldAddr fld74x2 rfl)<|O.op (.p rfl) (.loadAt flat3 rfl (hb1.drop 2) rfl) ?_;refine O.op (.p rfl) (.build (cs:=[_,_]) underlying166 rfl rfl rfl rfl rfl)<|O.opE (.p rfl) (.alloc (cs:=[.int .i64 0,.int .i64 0]) zeroValue166 rfl) ?_;rintro _ _ ⟨b3,rfl,rfl⟩;refine O.opU rfl (.storeObj zD rfl rfl rfl rfl zB zL) ?_;refine O.nil<|S.seq<|S.seq<|S.frzO zB fun g hs hm hb3=>?_;replace hg:=Fr.sub_trans hg hs;replace hR:=melted hR hm
  try replace h:=h.mono hs
  try replace k3:=k3.mono hs
  try replace k5:=k5.mono hs
  try replace k6:=k6.mono hs
  try replace hb1:=hb1.mono hs
  clear hs hm;refine S.region rfl<|O.op (.p rfl) (.fieldAddr fld74x0 rfl)<|O.op (.p rfl) (.loadAt flat9 rfl hb1 rfl) ?_;refine O.op (.p rfl) (.lenS rfl underlying9 rfl)<|O.op (.p rfl) (.lss rfl rfl)<|O.sF 12 rfl (by exact decide_eq_false (by rw [hz0];omega)) ?_;refine O.q 1 rfl<|O.op (.g rfl rfl) (.fieldAddr fld74x0 rfl)<|O.op (.g rfl rfl) (.loadAt flat9 rfl hb1 rfl) ?_;refine O.op (.g rfl rfl) (.lenS rfl underlying9 rfl)<|O.op (.g rfl rfl) (.gtr rfl rfl)<|O.sF 17 rfl (by exact decide_eq_false (by rw [hz0];omega)) ?_;refine O.q 2 rfl<|O.op (.g rfl rfl) (.loadAgg isAgg166 zD rfl hb3) ?_;refine O.call0 (.g rfl rfl) rfl zD rfl rfl ((r7dot_c (rDot x) rfl)) ?_;rintro _ _ ⟨rfl,rfl⟩
  try simp only [zx1,zx2,zx3]
  refine O.sF 21 rfl (by exact (by simpa using n2)) ?_;refine O.op (.g rfl rfl) (.not rfl)<|O.q 13 rfl<|O.nil<|S.condT rfl<|S.seq<|S.region rfl<|O.q 1 rfl<|O.nil ?_;exact S.rt results215 rfl hR ⟨congrArg _ (Bool.eq_false_iff.2 fun q=>n2 (shaped_iff.1 q).2.2.1).symm,rfl⟩
 have c2:=Classical.not_not.1 n2
 by_cases n3:¬ (vecOk x.2.2.2.1=true)
 ·
  refine S.region rfl<|O.op (.p rfl) (.fieldAddr fld74x1 rfl)<|O.op (.p rfl) (.loadAt flat3 rfl (hb1.drop 1) rfl) ?_;refine O.op (.p rfl) (.fieldAddr fld74x2 rfl)<|O.op (.p rfl) (.loadAt flat3 rfl (hb1.drop 2) rfl) ?_;refine O.op (.p rfl) (.build (cs:=[_,_]) underlying166 rfl rfl rfl rfl rfl)<|O.opE (.p rfl) (.alloc (cs:=[.int .i64 0,.int .i64 0]) zeroValue166 rfl) ?_;rintro _ _ ⟨b3,rfl,rfl⟩;refine O.opU rfl (.storeObj zD rfl rfl rfl rfl zB zL) ?_;refine O.nil<|S.seq<|S.seq<|S.frzO zB fun g hs hm hb3=>?_;replace hg:=Fr.sub_trans hg hs;replace hR:=melted hR hm
  try replace h:=h.mono hs
  try replace k3:=k3.mono hs
  try replace k5:=k5.mono hs
  try replace k6:=k6.mono hs
  try replace hb1:=hb1.mono hs
  clear hs hm;refine S.region rfl<|O.op (.p rfl) (.fieldAddr fld74x0 rfl)<|O.op (.p rfl) (.loadAt flat9 rfl hb1 rfl) ?_;refine O.op (.p rfl) (.lenS rfl underlying9 rfl)<|O.op (.p rfl) (.lss rfl rfl)<|O.sF 12 rfl (by exact decide_eq_false (by rw [hz0];omega)) ?_;refine O.q 1 rfl<|O.op (.g rfl rfl) (.fieldAddr fld74x0 rfl)<|O.op (.g rfl rfl) (.loadAt flat9 rfl hb1 rfl) ?_;refine O.op (.g rfl rfl) (.lenS rfl underlying9 rfl)<|O.op (.g rfl rfl) (.gtr rfl rfl)<|O.sF 17 rfl (by exact decide_eq_false (by rw [hz0];omega)) ?_;refine O.q 2 rfl<|O.op (.g rfl rfl) (.loadAgg isAgg166 zD rfl hb3) ?_;refine O.call0 (.g rfl rfl) rfl zD rfl rfl ((r7dot_c (rDot x) rfl)) ?_;rintro _ _ ⟨rfl,rfl⟩
  try simp only [zx1,zx2,zx3]
  refine O.sT 21 rfl (by exact c2) ?_;refine O.op (.g rfl rfl) (.not rfl)<|O.q 2 rfl<|O.op (.g rfl rfl) (.fieldAddr fld74x3 rfl)<|O.op (.g rfl rfl) (.loadAt flat72 rfl (hb1.drop 3) rfl) ?_;refine O.call0 (.g rfl rfl) rfl zD rfl rfl ((r7right_c k3)) ?_;rintro _ _ ⟨rfl,rfl⟩
  try simp only [zx1,zx2,zx3]
  refine O.sF 27 rfl (by exact (by simpa using n3)) ?_;refine O.op (.g rfl rfl) (.not rfl)<|O.q 7 rfl<|O.nil<|S.condT rfl<|S.seq<|S.region rfl<|O.q 1 rfl<|O.nil ?_;exact S.rt results215 rfl hR ⟨congrArg _ (Bool.eq_false_iff.2 fun q=>n3 (shaped_iff.1 q).2.2.2.1).symm,rfl⟩
 have c3:=Classical.not_not.1 n3
 by_cases n4:¬ (hasR x.2.2.2.1 (rDot x)=false)
 ·
  refine S.region rfl<|O.op (.p rfl) (.fieldAddr fld74x1 rfl)<|O.op (.p rfl) (.loadAt flat3 rfl (hb1.drop 1) rfl) ?_;refine O.op (.p rfl) (.fieldAddr fld74x2 rfl)<|O.op (.p rfl) (.loadAt flat3 rfl (hb1.drop 2) rfl) ?_;refine O.op (.p rfl) (.build (cs:=[_,_]) underlying166 rfl rfl rfl rfl rfl)<|O.opE (.p rfl) (.alloc (cs:=[.int .i64 0,.int .i64 0]) zeroValue166 rfl) ?_;rintro _ _ ⟨b3,rfl,rfl⟩;refine O.opU rfl (.storeObj zD rfl rfl rfl rfl zB zL) ?_;refine O.nil<|S.seq<|S.seq<|S.frzO zB fun g hs hm hb3=>?_;replace hg:=Fr.sub_trans hg hs;replace hR:=melted hR hm
  try replace h:=h.mono hs
  try replace k3:=k3.mono hs
  try replace k5:=k5.mono hs
  try replace k6:=k6.mono hs
  try replace hb1:=hb1.mono hs
  clear hs hm;refine S.region rfl<|O.op (.p rfl) (.fieldAddr fld74x0 rfl)<|O.op (.p rfl) (.loadAt flat9 rfl hb1 rfl) ?_;refine O.op (.p rfl) (.lenS rfl underlying9 rfl)<|O.op (.p rfl) (.lss rfl rfl)<|O.sF 12 rfl (by exact decide_eq_false (by rw [hz0];omega)) ?_;refine O.q 1 rfl<|O.op (.g rfl rfl) (.fieldAddr fld74x0 rfl)<|O.op (.g rfl rfl) (.loadAt flat9 rfl hb1 rfl) ?_;refine O.op (.g rfl rfl) (.lenS rfl underlying9 rfl)<|O.op (.g rfl rfl) (.gtr rfl rfl)<|O.sF 17 rfl (by exact decide_eq_false (by rw [hz0];omega)) ?_;refine O.q 2 rfl<|O.op (.g rfl rfl) (.loadAgg isAgg166 zD rfl hb3) ?_;refine O.call0 (.g rfl rfl) rfl zD rfl rfl ((r7dot_c (rDot x) rfl)) ?_;rintro _ _ ⟨rfl,rfl⟩
  try simp only [zx1,zx2,zx3]
  refine O.sT 21 rfl (by exact c2) ?_;refine O.op (.g rfl rfl) (.not rfl)<|O.q 2 rfl<|O.op (.g rfl rfl) (.fieldAddr fld74x3 rfl)<|O.op (.g rfl rfl) (.loadAt flat72 rfl (hb1.drop 3) rfl) ?_;refine O.call0 (.g rfl rfl) rfl zD rfl rfl ((r7right_c k3)) ?_;rintro _ _ ⟨rfl,rfl⟩
  try simp only [zx1,zx2,zx3]
  refine O.sT 27 rfl (by exact c3) ?_;refine O.op (.g rfl rfl) (.not rfl)<|O.q 2 rfl<|O.op (.g rfl rfl) (.fieldAddr fld74x3 rfl)<|O.op (.g rfl rfl) (.loadAt flat72 rfl (hb1.drop 3) rfl) ?_;refine O.op (.g rfl rfl) (.loadAgg isAgg166 zD rfl hb3) ?_;refine O.call0 (.g rfl rfl) rfl zD rfl rfl ((r7has_c (rDot x) rfl k3)) ?_;rintro _ _ ⟨rfl,rfl⟩
  try simp only [zx1,zx2,zx3]
  refine O.sT 34 rfl (by exact (by simpa using n4)) ?_;refine O.q 1 rfl<|O.nil<|S.condT rfl<|S.seq<|S.region rfl<|O.q 1 rfl<|O.nil ?_;exact S.rt results215 rfl hR ⟨congrArg _ (Bool.eq_false_iff.2 fun q=>n4 (shaped_iff.1 q).2.2.2.2.1).symm,rfl⟩
 have c4:=Classical.not_not.1 n4
 by_cases n5:¬ (x.2.2.2.2.2.1.length≤1024)
 ·
  refine S.region rfl<|O.op (.p rfl) (.fieldAddr fld74x1 rfl)<|O.op (.p rfl) (.loadAt flat3 rfl (hb1.drop 1) rfl) ?_;refine O.op (.p rfl) (.fieldAddr fld74x2 rfl)<|O.op (.p rfl) (.loadAt flat3 rfl (hb1.drop 2) rfl) ?_;refine O.op (.p rfl) (.build (cs:=[_,_]) underlying166 rfl rfl rfl rfl rfl)<|O.opE (.p rfl) (.alloc (cs:=[.int .i64 0,.int .i64 0]) zeroValue166 rfl) ?_;rintro _ _ ⟨b3,rfl,rfl⟩;refine O.opU rfl (.storeObj zD rfl rfl rfl rfl zB zL) ?_;refine O.nil<|S.seq<|S.seq<|S.frzO zB fun g hs hm hb3=>?_;replace hg:=Fr.sub_trans hg hs;replace hR:=melted hR hm
  try replace h:=h.mono hs
  try replace k3:=k3.mono hs
  try replace k5:=k5.mono hs
  try replace k6:=k6.mono hs
  try replace hb1:=hb1.mono hs
  clear hs hm;refine S.region rfl<|O.op (.p rfl) (.fieldAddr fld74x0 rfl)<|O.op (.p rfl) (.loadAt flat9 rfl hb1 rfl) ?_;refine O.op (.p rfl) (.lenS rfl underlying9 rfl)<|O.op (.p rfl) (.lss rfl rfl)<|O.sF 12 rfl (by exact decide_eq_false (by rw [hz0];omega)) ?_;refine O.q 1 rfl<|O.op (.g rfl rfl) (.fieldAddr fld74x0 rfl)<|O.op (.g rfl rfl) (.loadAt flat9 rfl hb1 rfl) ?_;refine O.op (.g rfl rfl) (.lenS rfl underlying9 rfl)<|O.op (.g rfl rfl) (.gtr rfl rfl)<|O.sF 17 rfl (by exact decide_eq_false (by rw [hz0];omega)) ?_;refine O.q 2 rfl<|O.op (.g rfl rfl) (.loadAgg isAgg166 zD rfl hb3) ?_;refine O.call0 (.g rfl rfl) rfl zD rfl rfl ((r7dot_c (rDot x) rfl)) ?_;rintro _ _ ⟨rfl,rfl⟩
  try simp only [zx1,zx2,zx3]
  refine O.sT 21 rfl (by exact c2) ?_;refine O.op (.g rfl rfl) (.not rfl)<|O.q 2 rfl<|O.op (.g rfl rfl) (.fieldAddr fld74x3 rfl)<|O.op (.g rfl rfl) (.loadAt flat72 rfl (hb1.drop 3) rfl) ?_;refine O.call0 (.g rfl rfl) rfl zD rfl rfl ((r7right_c k3)) ?_;rintro _ _ ⟨rfl,rfl⟩
  try simp only [zx1,zx2,zx3]
  refine O.sT 27 rfl (by exact c3) ?_;refine O.op (.g rfl rfl) (.not rfl)<|O.q 2 rfl<|O.op (.g rfl rfl) (.fieldAddr fld74x3 rfl)<|O.op (.g rfl rfl) (.loadAt flat72 rfl (hb1.drop 3) rfl) ?_;refine O.op (.g rfl rfl) (.loadAgg isAgg166 zD rfl hb3) ?_;refine O.call0 (.g rfl rfl) rfl zD rfl rfl ((r7has_c (rDot x) rfl k3)) ?_;rintro _ _ ⟨rfl,rfl⟩
  try simp only [zx1,zx2,zx3]
  refine O.sF 34 rfl (by exact c4) ?_;refine O.q 1 rfl<|O.nil<|S.condF rfl<|S.skip<|S.seq<|S.region rfl<|O.op (.p rfl) (.fieldAddr fld74x5 rfl)<|O.op (.p rfl) (.loadAt flat31 rfl (hb1.drop 5) rfl) ?_;refine O.op (.p rfl) (.len rfl underlying31 rfl)<|O.op (.p rfl) (.leq rfl rfl)<|O.sF 39 rfl (by exact decide_eq_false zC) ?_;refine O.q 12 rfl<|O.nil ?_;exact S.rt results215 rfl hR ⟨congrArg _ (Bool.eq_false_iff.2 fun q=>n5 (shaped_iff.1 q).2.2.2.2.2.1).symm,rfl⟩
 have c5:=Classical.not_not.1 n5
 cases g4:x.2.2.2.2.1 with
 |false =>
  have hs:shaped x=true:=shaped_iff.2 ⟨c0,c1,c2,c3,c4,c5,fun q=>by rw [g4] at q;cases q⟩;refine S.region rfl<|O.op (.p rfl) (.fieldAddr fld74x1 rfl)<|O.op (.p rfl) (.loadAt flat3 rfl (hb1.drop 1) rfl) ?_;refine O.op (.p rfl) (.fieldAddr fld74x2 rfl)<|O.op (.p rfl) (.loadAt flat3 rfl (hb1.drop 2) rfl) ?_;refine O.op (.p rfl) (.build (cs:=[_,_]) underlying166 rfl rfl rfl rfl rfl)<|O.opE (.p rfl) (.alloc (cs:=[.int .i64 0,.int .i64 0]) zeroValue166 rfl) ?_;rintro _ _ ⟨b3,rfl,rfl⟩;refine O.opU rfl (.storeObj zD rfl rfl rfl rfl zB zL) ?_;refine O.nil<|S.seq<|S.seq<|S.frzO zB fun g hs hm hb3=>?_;replace hg:=Fr.sub_trans hg hs;replace hR:=melted hR hm
  try replace h:=h.mono hs
  try replace k3:=k3.mono hs
  try replace k5:=k5.mono hs
  try replace k6:=k6.mono hs
  try replace hb1:=hb1.mono hs
  clear hs hm;refine S.region rfl<|O.op (.p rfl) (.fieldAddr fld74x0 rfl)<|O.op (.p rfl) (.loadAt flat9 rfl hb1 rfl) ?_;refine O.op (.p rfl) (.lenS rfl underlying9 rfl)<|O.op (.p rfl) (.lss rfl rfl)<|O.sF 12 rfl (by exact decide_eq_false (by rw [hz0];omega)) ?_;refine O.q 1 rfl<|O.op (.g rfl rfl) (.fieldAddr fld74x0 rfl)<|O.op (.g rfl rfl) (.loadAt flat9 rfl hb1 rfl) ?_;refine O.op (.g rfl rfl) (.lenS rfl underlying9 rfl)<|O.op (.g rfl rfl) (.gtr rfl rfl)<|O.sF 17 rfl (by exact decide_eq_false (by rw [hz0];omega)) ?_;refine O.q 2 rfl<|O.op (.g rfl rfl) (.loadAgg isAgg166 zD rfl hb3) ?_;refine O.call0 (.g rfl rfl) rfl zD rfl rfl ((r7dot_c (rDot x) rfl)) ?_;rintro _ _ ⟨rfl,rfl⟩
  try simp only [zx1,zx2,zx3]
  refine O.sT 21 rfl (by exact c2) ?_;refine O.op (.g rfl rfl) (.not rfl)<|O.q 2 rfl<|O.op (.g rfl rfl) (.fieldAddr fld74x3 rfl)<|O.op (.g rfl rfl) (.loadAt flat72 rfl (hb1.drop 3) rfl) ?_;refine O.call0 (.g rfl rfl) rfl zD rfl rfl ((r7right_c k3)) ?_;rintro _ _ ⟨rfl,rfl⟩
  try simp only [zx1,zx2,zx3]
  refine O.sT 27 rfl (by exact c3) ?_;refine O.op (.g rfl rfl) (.not rfl)<|O.q 2 rfl<|O.op (.g rfl rfl) (.fieldAddr fld74x3 rfl)<|O.op (.g rfl rfl) (.loadAt flat72 rfl (hb1.drop 3) rfl) ?_;refine O.op (.g rfl rfl) (.loadAgg isAgg166 zD rfl hb3) ?_;refine O.call0 (.g rfl rfl) rfl zD rfl rfl ((r7has_c (rDot x) rfl k3)) ?_;rintro _ _ ⟨rfl,rfl⟩
  try simp only [zx1,zx2,zx3]
  refine O.sF 34 rfl (by exact c4) ?_;refine O.q 1 rfl<|O.nil<|S.condF rfl<|S.skip<|S.seq<|S.region rfl<|O.op (.p rfl) (.fieldAddr fld74x5 rfl)<|O.op (.p rfl) (.loadAt flat31 rfl (hb1.drop 5) rfl) ?_;refine O.op (.p rfl) (.len rfl underlying31 rfl)<|O.op (.p rfl) (.leq rfl rfl)<|O.sT 39 rfl (by exact decide_eq_true zC) ?_;refine O.q 1 rfl<|O.op (.g rfl rfl) (.fieldAddr fld74x4 rfl)<|O.op (.g rfl rfl) (.loadAt flat4 rfl (hb1.drop 4) rfl) ?_;refine O.sF 42 rfl (by exact g4) ?_;refine O.op (.g rfl rfl) (.not rfl)<|O.q 8 rfl<|O.nil ?_;exact S.rt results215 rfl hR ⟨by rw [hs],rfl⟩
 |true =>
  by_cases n6:x.2.2.2.2.2.1.length=0
  ·have hs:shaped x=true:=shaped_iff.2 ⟨c0,c1,c2,c3,c4,c5,fun _=>n6⟩
   refine S.region rfl<|O.op (.p rfl) (.fieldAddr fld74x1 rfl)<|O.op (.p rfl) (.loadAt flat3 rfl (hb1.drop 1) rfl) ?_;refine O.op (.p rfl) (.fieldAddr fld74x2 rfl)<|O.op (.p rfl) (.loadAt flat3 rfl (hb1.drop 2) rfl) ?_;refine O.op (.p rfl) (.build (cs:=[_,_]) underlying166 rfl rfl rfl rfl rfl)<|O.opE (.p rfl) (.alloc (cs:=[.int .i64 0,.int .i64 0]) zeroValue166 rfl) ?_;rintro _ _ ⟨b3,rfl,rfl⟩;refine O.opU rfl (.storeObj zD rfl rfl rfl rfl zB zL) ?_;refine O.nil<|S.seq<|S.seq<|S.frzO zB fun g hs hm hb3=>?_;replace hg:=Fr.sub_trans hg hs;replace hR:=melted hR hm
   try replace h:=h.mono hs
   try replace k3:=k3.mono hs
   try replace k5:=k5.mono hs
   try replace k6:=k6.mono hs
   try replace hb1:=hb1.mono hs
   clear hs hm;refine S.region rfl<|O.op (.p rfl) (.fieldAddr fld74x0 rfl)<|O.op (.p rfl) (.loadAt flat9 rfl hb1 rfl) ?_;refine O.op (.p rfl) (.lenS rfl underlying9 rfl)<|O.op (.p rfl) (.lss rfl rfl)<|O.sF 12 rfl (by exact decide_eq_false (by rw [hz0];omega)) ?_;refine O.q 1 rfl<|O.op (.g rfl rfl) (.fieldAddr fld74x0 rfl)<|O.op (.g rfl rfl) (.loadAt flat9 rfl hb1 rfl) ?_;refine O.op (.g rfl rfl) (.lenS rfl underlying9 rfl)<|O.op (.g rfl rfl) (.gtr rfl rfl)<|O.sF 17 rfl (by exact decide_eq_false (by rw [hz0];omega)) ?_;refine O.q 2 rfl<|O.op (.g rfl rfl) (.loadAgg isAgg166 zD rfl hb3) ?_;refine O.call0 (.g rfl rfl) rfl zD rfl rfl ((r7dot_c (rDot x) rfl)) ?_;rintro _ _ ⟨rfl,rfl⟩
   try simp only [zx1,zx2,zx3]
   refine O.sT 21 rfl (by exact c2) ?_;refine O.op (.g rfl rfl) (.not rfl)<|O.q 2 rfl<|O.op (.g rfl rfl) (.fieldAddr fld74x3 rfl)<|O.op (.g rfl rfl) (.loadAt flat72 rfl (hb1.drop 3) rfl) ?_;refine O.call0 (.g rfl rfl) rfl zD rfl rfl ((r7right_c k3)) ?_;rintro _ _ ⟨rfl,rfl⟩
   try simp only [zx1,zx2,zx3]
   refine O.sT 27 rfl (by exact c3) ?_;refine O.op (.g rfl rfl) (.not rfl)<|O.q 2 rfl<|O.op (.g rfl rfl) (.fieldAddr fld74x3 rfl)<|O.op (.g rfl rfl) (.loadAt flat72 rfl (hb1.drop 3) rfl) ?_;refine O.op (.g rfl rfl) (.loadAgg isAgg166 zD rfl hb3) ?_;refine O.call0 (.g rfl rfl) rfl zD rfl rfl ((r7has_c (rDot x) rfl k3)) ?_;rintro _ _ ⟨rfl,rfl⟩
   try simp only [zx1,zx2,zx3]
   refine O.sF 34 rfl (by exact c4) ?_;refine O.q 1 rfl<|O.nil<|S.condF rfl<|S.skip<|S.seq<|S.region rfl<|O.op (.p rfl) (.fieldAddr fld74x5 rfl)<|O.op (.p rfl) (.loadAt flat31 rfl (hb1.drop 5) rfl) ?_;refine O.op (.p rfl) (.len rfl underlying31 rfl)<|O.op (.p rfl) (.leq rfl rfl)<|O.sT 39 rfl (by exact decide_eq_true zC) ?_;refine O.q 1 rfl<|O.op (.g rfl rfl) (.fieldAddr fld74x4 rfl)<|O.op (.g rfl rfl) (.loadAt flat4 rfl (hb1.drop 4) rfl) ?_;refine O.sT 42 rfl (by exact g4) ?_;refine O.op (.g rfl rfl) (.not rfl)<|O.q 1 rfl<|O.op (.g rfl rfl) (.fieldAddr fld74x5 rfl)<|O.op (.g rfl rfl) (.loadAt flat31 rfl (hb1.drop 5) rfl) ?_;refine O.op (.g rfl rfl) (.len rfl underlying31 rfl)<|O.op (.g rfl rfl) (.eql rfl rfl)<|O.sT 48 rfl (by exact decide_eq_true zC) ?_;refine O.q 3 rfl<|O.nil ?_;exact S.rt results215 rfl hR ⟨by rw [hs],rfl⟩
  ·have hs:shaped x=false:=Bool.eq_false_iff.2 fun q=>n6 ((shaped_iff.1 q).2.2.2.2.2.2 g4)
   refine S.region rfl<|O.op (.p rfl) (.fieldAddr fld74x1 rfl)<|O.op (.p rfl) (.loadAt flat3 rfl (hb1.drop 1) rfl) ?_;refine O.op (.p rfl) (.fieldAddr fld74x2 rfl)<|O.op (.p rfl) (.loadAt flat3 rfl (hb1.drop 2) rfl) ?_;refine O.op (.p rfl) (.build (cs:=[_,_]) underlying166 rfl rfl rfl rfl rfl)<|O.opE (.p rfl) (.alloc (cs:=[.int .i64 0,.int .i64 0]) zeroValue166 rfl) ?_;rintro _ _ ⟨b3,rfl,rfl⟩;refine O.opU rfl (.storeObj zD rfl rfl rfl rfl zB zL) ?_;refine O.nil<|S.seq<|S.seq<|S.frzO zB fun g hs hm hb3=>?_;replace hg:=Fr.sub_trans hg hs;replace hR:=melted hR hm
   try replace h:=h.mono hs
   try replace k3:=k3.mono hs
   try replace k5:=k5.mono hs
   try replace k6:=k6.mono hs
   try replace hb1:=hb1.mono hs
   clear hs hm;refine S.region rfl<|O.op (.p rfl) (.fieldAddr fld74x0 rfl)<|O.op (.p rfl) (.loadAt flat9 rfl hb1 rfl) ?_;refine O.op (.p rfl) (.lenS rfl underlying9 rfl)<|O.op (.p rfl) (.lss rfl rfl)<|O.sF 12 rfl (by exact decide_eq_false (by rw [hz0];omega)) ?_;refine O.q 1 rfl<|O.op (.g rfl rfl) (.fieldAddr fld74x0 rfl)<|O.op (.g rfl rfl) (.loadAt flat9 rfl hb1 rfl) ?_;refine O.op (.g rfl rfl) (.lenS rfl underlying9 rfl)<|O.op (.g rfl rfl) (.gtr rfl rfl)<|O.sF 17 rfl (by exact decide_eq_false (by rw [hz0];omega)) ?_;refine O.q 2 rfl<|O.op (.g rfl rfl) (.loadAgg isAgg166 zD rfl hb3) ?_;refine O.call0 (.g rfl rfl) rfl zD rfl rfl ((r7dot_c (rDot x) rfl)) ?_;rintro _ _ ⟨rfl,rfl⟩
   try simp only [zx1,zx2,zx3]
   refine O.sT 21 rfl (by exact c2) ?_;refine O.op (.g rfl rfl) (.not rfl)<|O.q 2 rfl<|O.op (.g rfl rfl) (.fieldAddr fld74x3 rfl)<|O.op (.g rfl rfl) (.loadAt flat72 rfl (hb1.drop 3) rfl) ?_;refine O.call0 (.g rfl rfl) rfl zD rfl rfl ((r7right_c k3)) ?_;rintro _ _ ⟨rfl,rfl⟩
   try simp only [zx1,zx2,zx3]
   refine O.sT 27 rfl (by exact c3) ?_;refine O.op (.g rfl rfl) (.not rfl)<|O.q 2 rfl<|O.op (.g rfl rfl) (.fieldAddr fld74x3 rfl)<|O.op (.g rfl rfl) (.loadAt flat72 rfl (hb1.drop 3) rfl) ?_;refine O.op (.g rfl rfl) (.loadAgg isAgg166 zD rfl hb3) ?_;refine O.call0 (.g rfl rfl) rfl zD rfl rfl ((r7has_c (rDot x) rfl k3)) ?_;rintro _ _ ⟨rfl,rfl⟩
   try simp only [zx1,zx2,zx3]
   refine O.sF 34 rfl (by exact c4) ?_;refine O.q 1 rfl<|O.nil<|S.condF rfl<|S.skip<|S.seq<|S.region rfl<|O.op (.p rfl) (.fieldAddr fld74x5 rfl)<|O.op (.p rfl) (.loadAt flat31 rfl (hb1.drop 5) rfl) ?_;refine O.op (.p rfl) (.len rfl underlying31 rfl)<|O.op (.p rfl) (.leq rfl rfl)<|O.sT 39 rfl (by exact decide_eq_true zC) ?_;refine O.q 1 rfl<|O.op (.g rfl rfl) (.fieldAddr fld74x4 rfl)<|O.op (.g rfl rfl) (.loadAt flat4 rfl (hb1.drop 4) rfl) ?_;refine O.sT 42 rfl (by exact g4) ?_;refine O.op (.g rfl rfl) (.not rfl)<|O.q 1 rfl<|O.op (.g rfl rfl) (.fieldAddr fld74x5 rfl)<|O.op (.g rfl rfl) (.loadAt flat31 rfl (hb1.drop 5) rfl) ?_;refine O.op (.g rfl rfl) (.len rfl underlying31 rfl)<|O.op (.g rfl rfl) (.eql rfl rfl)<|O.sF 48 rfl (by exact decide_eq_false zC) ?_;refine O.q 3 rfl<|O.nil ?_;exact S.rt results215 rfl hR ⟨by rw [hs],rfl⟩
theorem r8right_c {r:Fr} {cs:List Value} {x:RecT} (h:RecRp.rel r cs x):Con prog 213 #[.agg cs.toArray] r [] (Ret fun v η=>v=.bool (recOk x)∧η=[]):=by
 obtain ⟨xa3,xa5,xa6,xc3,xc5,xc6,rfl,k0,k1,k2,k3,k5,k6⟩:=RecRp.sh h;have hz0:=str_size x.1;refine Con.of (n:=11) _ rfl func213 rfl rfl rfl fun g hg R hR=>?_;have h:=h.mono hg;have k3:=k3.mono hg;have k5:=k5.mono hg;have k6:=k6.mono hg;refine S.seq<|S.region rfl<|O.opE (.p rfl) (.box (cs:=[_,_,_,_,_,_,_]) rfl rfl) ?_;rintro _ _ ⟨b1,rfl,rfl⟩;refine O.q 1 rfl<|O.nil<|S.seq<|S.frzO zB fun g hs hm hb1=>?_;replace hg:=Fr.sub_trans hg hs;replace hR:=melted hR hm
 try replace h:=h.mono hs
 try replace k3:=k3.mono hs
 try replace k5:=k5.mono hs
 try replace k6:=k6.mono hs
 clear hs hm
 cases e:shaped x with
 |false =>
  refine S.region rfl<|O.op (.p rfl) (.loadAgg isAgg74 zD rfl hb1) ?_;refine O.call0 (.p rfl) rfl zD rfl rfl ((r8shape_c h)) ?_;rintro _ _ ⟨rfl,rfl⟩
  try simp only [zx1,zx2,zx3]
  refine O.sF 4 rfl (by exact e) ?_;refine O.q 7 rfl<|O.nil ?_;exact S.rt results213 rfl hR ⟨by simp [recOk,e],rfl⟩
 |true =>
  refine S.region rfl<|O.op (.p rfl) (.loadAgg isAgg74 zD rfl hb1) ?_;refine O.call0 (.p rfl) rfl zD rfl rfl ((r8shape_c h)) ?_;rintro _ _ ⟨rfl,rfl⟩
  try simp only [zx1,zx2,zx3]
  refine O.sT 4 rfl (by exact e) ?_;refine O.q 1 rfl<|O.op (.g rfl rfl) (.fieldAddr fld74x6 rfl)<|O.op (.g rfl rfl) (.loadAt flat31 rfl (hb1.drop 6) rfl) ?_;refine O.op (.g rfl rfl) (.len rfl underlying31 rfl)<|O.op (.g rfl rfl) (.eql rfl rfl)<|O.q 2 rfl<|O.nil ?_;exact S.rt results213 rfl hR ⟨congrArg _ (by rw [recOk,e,Bool.true_and];exact decide_eq_decide.2 zC),rfl⟩
theorem r8over_c {r:Fr} {cs ds:List Value} {x y:RecT} (h:RecRp.rel r cs x) (h' :RecRp.rel r ds y):Con prog 109 #[.agg cs.toArray,.agg ds.toArray] r [] (Ret fun v η=>v=.bool (over x y)∧η=[]):=by
 obtain ⟨xa3,xa5,xa6,xc3,xc5,xc6,rfl,k0,k1,k2,k3,k5,k6⟩:=RecRp.sh h;obtain ⟨ya3,ya5,ya6,yc3,yc5,yc6,rfl,j0,j1,j2,j3,j5,j6⟩:=RecRp.sh h';refine Con.of (n:=28) _ rfl func109 rfl rfl rfl fun g hg R hR=>?_;have h:=h.mono hg;have h' :=h'.mono hg;have k3:=k3.mono hg;refine S.seq<|S.region rfl<|O.opE (.p rfl) (.box (cs:=[_,_,_,_,_,_,_]) rfl rfl) ?_;rintro _ _ ⟨b2,rfl,rfl⟩;refine O.opE (.p rfl) (.box (cs:=[_,_,_,_,_,_,_]) rfl rfl) ?_;rintro _ _ ⟨b3,rfl,rfl⟩;refine O.q 1 rfl<|O.nil (S.seq ?_)
 cases e1:shaped x with
 |false =>
  refine S.region rfl<|O.op (.p rfl) (.loA (news:=[_,_,_,_,_,_,_]) isAgg74) ?_;refine O.call0 (.p rfl) rfl zD rfl rfl ((r8shape_c h)) ?_;rintro _ _ ⟨rfl,rfl⟩
  try simp only [zx1,zx2,zx3]
  refine O.sF 6 rfl (by exact e1) ?_;refine O.q 22 rfl<|O.nil ?_;exact S.rt results109 rfl hR ⟨by simp [over,e1],rfl⟩
 |true =>
  cases e2:shaped y with
  |false =>
   refine S.region rfl<|O.op (.p rfl) (.loA (news:=[_,_,_,_,_,_,_]) isAgg74) ?_;refine O.call0 (.p rfl) rfl zD rfl rfl ((r8shape_c h)) ?_;rintro _ _ ⟨rfl,rfl⟩
   try simp only [zx1,zx2,zx3]
   refine O.sT 6 rfl (by exact e1) ?_;refine O.q 1 rfl<|O.op (.g rfl rfl) (.loA (news:=[_,_,_,_,_,_,_]) isAgg74) ?_;refine O.call0 (.g rfl rfl) rfl zD rfl rfl ((r8shape_c h')) ?_;rintro _ _ ⟨rfl,rfl⟩
   try simp only [zx1,zx2,zx3]
   refine O.sF 9 rfl (by exact e2) ?_;refine O.q 19 rfl<|O.nil ?_;exact S.rt results109 rfl hR ⟨by simp [over,e2],rfl⟩
  |true =>
   by_cases e3:x.1=y.1
   ·
    refine S.region rfl<|O.op (.p rfl) (.loA (news:=[_,_,_,_,_,_,_]) isAgg74) ?_;refine O.call0 (.p rfl) rfl zD rfl rfl ((r8shape_c h)) ?_;rintro _ _ ⟨rfl,rfl⟩
    try simp only [zx1,zx2,zx3]
    refine O.sT 6 rfl (by exact e1) ?_;refine O.q 1 rfl<|O.op (.g rfl rfl) (.loA (news:=[_,_,_,_,_,_,_]) isAgg74) ?_;refine O.call0 (.g rfl rfl) rfl zD rfl rfl ((r8shape_c h')) ?_;rintro _ _ ⟨rfl,rfl⟩
    try simp only [zx1,zx2,zx3]
    refine O.sT 9 rfl (by exact e2) ?_;refine O.q 2 rfl<|O.op (.g rfl rfl) (.fieldObj fld74x0 rfl)<|O.op (.g rfl rfl) (.lo flat9) ?_;refine O.op (.g rfl rfl) (.fieldObj fld74x0 rfl)<|O.op (.g rfl rfl) (.lo flat9) ?_;refine O.op (.g rfl rfl) (.eqlS rfl rfl)<|O.sT 16 rfl (by simp [e3]) ?_;refine O.q 2 rfl<|O.op (.g rfl rfl) (.fieldObj fld74x3 rfl)<|O.op (.g rfl rfl) (.lo flat72) ?_;refine O.op (.g rfl rfl) (.fieldObj fld74x1 rfl)<|O.op (.g rfl rfl) (.lo flat3) ?_;refine O.op (.g rfl rfl) (.fieldObj fld74x2 rfl)<|O.op (.g rfl rfl) (.lo flat3) ?_;refine O.op (.g rfl rfl) (.build (cs:=[_,_]) underlying166 rfl rfl rfl rfl rfl)<|O.call0 (.g rfl rfl) rfl zD rfl rfl ((r7has_c (rDot y) rfl k3)) ?_;rintro _ _ ⟨rfl,rfl⟩
    try simp only [zx1,zx2,zx3]
    refine O.q 2 rfl<|O.nil ?_;exact S.rt results109 rfl hR ⟨by simp [over,e1,e2,e3],rfl⟩
   ·
    refine S.region rfl<|O.op (.p rfl) (.loA (news:=[_,_,_,_,_,_,_]) isAgg74) ?_;refine O.call0 (.p rfl) rfl zD rfl rfl ((r8shape_c h)) ?_;rintro _ _ ⟨rfl,rfl⟩
    try simp only [zx1,zx2,zx3]
    refine O.sT 6 rfl (by exact e1) ?_;refine O.q 1 rfl<|O.op (.g rfl rfl) (.loA (news:=[_,_,_,_,_,_,_]) isAgg74) ?_;refine O.call0 (.g rfl rfl) rfl zD rfl rfl ((r8shape_c h')) ?_;rintro _ _ ⟨rfl,rfl⟩
    try simp only [zx1,zx2,zx3]
    refine O.sT 9 rfl (by exact e2) ?_;refine O.q 2 rfl<|O.op (.g rfl rfl) (.fieldObj fld74x0 rfl)<|O.op (.g rfl rfl) (.lo flat9) ?_;refine O.op (.g rfl rfl) (.fieldObj fld74x0 rfl)<|O.op (.g rfl rfl) (.lo flat9) ?_;refine O.op (.g rfl rfl) (.eqlS rfl rfl)<|O.sF 16 rfl (by simp [e3]) ?_;refine O.q 12 rfl<|O.nil ?_;exact S.rt results109 rfl hR ⟨by simp [over,e3],rfl⟩
def recHead (x:RecT):List UInt8:=[1]++(bytesOf x.1++(be x.2.1++(be x.2.2.1++be x.2.2.2.1.length)))
theorem r8text_c {r:Fr} {cs:List Value} {x:RecT} (h:RecRp.rel r cs x) (hs:shaped x=true) :
  Con prog 285 #[.agg cs.toArray] r [] (Ret fun v η=>∃ a c,v=.slice a (recText x).length c∧η=[OwnP Rp.u8 5 (.slice a (recText x).length c) (recText x)]):=by
 obtain ⟨xa3,xa5,xa6,xc3,xc5,xc6,rfl,k0,k1,k2,k3,k5,k6⟩:=RecRp.sh h;obtain ⟨m0,m1,_,m3,_,m5,_⟩:=shaped_iff.1 hs;have m4:=rises_len m3;have hfl:[[1],bytesOf x.1,be x.2.1,be x.2.2.1,be x.2.2.2.1.length].flatten=recHead x:=by simp [recHead]
 have hhl:(recHead x).length=33+x.1.length:=by simp [recHead];omega
 refine Con.of (n:=60) _ rfl func285 rfl rfl rfl fun g hg R hR=>?_;have h:=h.mono hg;have k3:=k3.mono hg;have k5:=k5.mono hg;have k6:=k6.mono hg;refine S.seq<|S.region rfl<|O.opE (.p rfl) (.box (cs:=[_,_,_,_,_,_,_]) rfl rfl) ?_;rintro _ _ ⟨b1,rfl,rfl⟩;refine O.q 1 rfl<|O.nil<|S.seq<|S.seq<|S.frzO zB fun g hs hm hb1=>?_;replace hg:=Fr.sub_trans hg hs;replace hR:=melted hR hm
 try replace h:=h.mono hs
 try replace k3:=k3.mono hs
 try replace k5:=k5.mono hs
 try replace k6:=k6.mono hs
 clear hs hm;refine S.region rfl<|O.op (.p rfl) (.loadAgg isAgg74 zD rfl hb1) ?_;refine O.call0 (.p rfl) rfl zD rfl rfl ((r8shape_c h)) ?_;rintro _ _ ⟨rfl,rfl⟩
 try simp only [zx1,zx2,zx3]
 refine O.sT 7 rfl (by exact hs) ?_;refine O.op (.p rfl) (.not rfl)<|O.nil<|S.condF rfl<|S.skip<|S.seq<|S.regionJ (L:=[1,2,5,6,8,9,11,12,13,0,3,4,7,10,14,15,16,17]) (fun (s:Option Addr × Nat)=>[(3,.slice s.1 (recHead x).length s.2)]) [(1,_)] (fun (s:Option Addr × Nat)=>[OwnP Rp.u8 5 (.slice s.1 (recHead x).length s.2) (recHead x)]) (.cons rfl (.nil)) F.mixed zD (fun kk key=>?_) (fun s=>?_)
 ·refine .quiet (.p rfl) rfl (fun _=>.fieldAddr fld74x0 rfl)<|.quiet (.p rfl) rfl (fun _=>.loadAt flat9 rfl hb1 rfl) ?_
  refine .quiet (.p rfl) rfl (fun _=>.fieldAddr fld74x1 rfl)<|.quiet (.p rfl) rfl (fun _=>.loadAt flat3 rfl (hb1.drop 1) rfl) ?_;refine .quiet (.p rfl) rfl (fun _=>.fieldAddr fld74x2 rfl)<|.quiet (.p rfl) rfl (fun _=>.loadAt flat3 rfl (hb1.drop 2) rfl) ?_;refine .quiet (.p rfl) rfl (fun _=>.fieldAddr fld74x3 rfl)<|.quiet (.p rfl) rfl (fun _=>.loadAt flat72 rfl (hb1.drop 3) rfl) ?_;refine .quiet (.p rfl) rfl (fun _=>.len rfl underlying72 rfl)<|OD.alt2 0 3 [3,4,7,10,14,15,16,17] [0,4,7,10,14,15,16,17] zD rfl rfl ?_ ?_
  ·refine ODt.litP (T:=Rp.u8) (ys:=[1]) (.p rfl) zD underlying31 elem5 zF rfl rfl ⟨rfl,trivial⟩ zF (fun a9 c9=>?_)
   refine OD.strBytesO (.p rfl) zD underlying9 underlying31 underlying5 rfl (by first|assumption|omega|(simp;done)|(simp;omega)) (fun a12 c12=>?_);refine OD.callB (.p rfl) zD rfl zD rfl rfl (bs:=[OwnP Rp.u8 5 (.slice a12 x.1.length c12) x.1]) zN (fun m hm hd=>refBytes_c (hm.arr.right hd) zC) ?_;rintro _ _ ⟨a13,c13,rfl,rfl⟩
   try simp only [zx1,zx2,zx3]
   refine OD.call0 (.p rfl) zD rfl zD rfl rfl (refNumber_c _) ?_;rintro _ _ ⟨a16,c16,rfl,rfl⟩
   try simp only [zx1,zx2,zx3]
   refine OD.call0 (.p rfl) zD rfl zD rfl rfl (refNumber_c _) ?_;rintro _ _ ⟨a19,c19,rfl,rfl⟩
   try simp only [zx1,zx2,zx3]
   refine OD.call0 (.p rfl) zD rfl zD rfl rfl (refNumber_c _) ?_;rintro _ _ ⟨a23,c23,rfl,rfl⟩
   try simp only [zx1,zx2,zx3]
   refine OD.litP (T:=Rp.val) (ys:=[_,_,_,_,_]) (.p rfl) zD underlying39 elem31 zF rfl rfl ⟨⟨rfl,rfl⟩,⟨rfl,rfl⟩,⟨rfl,rfl⟩,⟨rfl,rfl⟩,⟨rfl,rfl⟩,trivial⟩ zF (fun a24 c24=>?_);refine OD.callB (.p rfl) zD rfl zD rfl rfl (bs:=[OwnP Rp.val 31 (.slice a24 5 c24) [.slice a9 1 c9,.slice a13 (bytesOf x.1).length c13,.slice a16 8 c16,.slice a19 8 c19,.slice a23 8 c23],OwnP Rp.u8 5 (.slice a9 1 c9) [1],OwnP Rp.u8 5 (.slice a13 (bytesOf x.1).length c13) (bytesOf x.1),OwnP Rp.u8 5 (.slice a16 8 c16) (be x.2.1),OwnP Rp.u8 5 (.slice a19 8 c19) (be x.2.2.1),OwnP Rp.u8 5 (.slice a23 8 c23) (be x.2.2.2.1.length)]) zN (fun m hm hd=>refJoin_c (xss:=[[1],bytesOf x.1,be x.2.1,be x.2.2.1,be x.2.2.2.1.length]) ((hm.arr.right hd).rows ⟨hm.tail.arr.right hd,hm.tail.tail.arr.right hd,hm.tail.tail.tail.arr.right hd,hm.tail.tail.tail.tail.arr.right hd,hm.tail.tail.tail.tail.tail.arr.right hd,trivial⟩) (by rw [hfl];omega)) ?_;rintro _ _ ⟨a25,c25,rfl,rfl⟩
   try simp only [zx1,zx2,zx3]
   rw [hfl];refine OD.q 1 rfl<|ODx.nil<|S.pk ?_ (S.weaken (Sub.app (.cons rfl (.nil)) (.cons rfl (.nil))) (key (a25,c25)))
   try dsimp only
   repeat (first|exact zpa|exact zpn|(apply zpc;focus (repeat (first|exact zh|apply zt)))|apply zps)
  ·refine ODt.strBytesO (.p rfl) zD underlying9 underlying31 underlying5 rfl (by first|assumption|omega|(simp;done)|(simp;omega)) (fun a12 c12=>?_)
   refine OD.alt2 0 4 [4,7,10,14,15,16,17] [0,7,10,14,15,16,17] zD rfl rfl ?_ ?_
   ·refine ODt.litP (T:=Rp.u8) (ys:=[1]) (.p rfl) zD underlying31 elem5 zF rfl rfl ⟨rfl,trivial⟩ zF (fun a9 c9=>?_)
    refine OD.callB (.p rfl) zD rfl zD rfl rfl (bs:=[OwnP Rp.u8 5 (.slice a12 x.1.length c12) x.1]) zN (fun m hm hd=>refBytes_c (hm.arr.right hd) zC) ?_;rintro _ _ ⟨a13,c13,rfl,rfl⟩
    try simp only [zx1,zx2,zx3]
    refine OD.call0 (.p rfl) zD rfl zD rfl rfl (refNumber_c _) ?_;rintro _ _ ⟨a16,c16,rfl,rfl⟩
    try simp only [zx1,zx2,zx3]
    refine OD.call0 (.p rfl) zD rfl zD rfl rfl (refNumber_c _) ?_;rintro _ _ ⟨a19,c19,rfl,rfl⟩
    try simp only [zx1,zx2,zx3]
    refine OD.call0 (.p rfl) zD rfl zD rfl rfl (refNumber_c _) ?_;rintro _ _ ⟨a23,c23,rfl,rfl⟩
    try simp only [zx1,zx2,zx3]
    refine OD.litP (T:=Rp.val) (ys:=[_,_,_,_,_]) (.p rfl) zD underlying39 elem31 zF rfl rfl ⟨⟨rfl,rfl⟩,⟨rfl,rfl⟩,⟨rfl,rfl⟩,⟨rfl,rfl⟩,⟨rfl,rfl⟩,trivial⟩ zF (fun a24 c24=>?_);refine OD.callB (.p rfl) zD rfl zD rfl rfl (bs:=[OwnP Rp.val 31 (.slice a24 5 c24) [.slice a9 1 c9,.slice a13 (bytesOf x.1).length c13,.slice a16 8 c16,.slice a19 8 c19,.slice a23 8 c23],OwnP Rp.u8 5 (.slice a9 1 c9) [1],OwnP Rp.u8 5 (.slice a13 (bytesOf x.1).length c13) (bytesOf x.1),OwnP Rp.u8 5 (.slice a16 8 c16) (be x.2.1),OwnP Rp.u8 5 (.slice a19 8 c19) (be x.2.2.1),OwnP Rp.u8 5 (.slice a23 8 c23) (be x.2.2.2.1.length)]) zN (fun m hm hd=>refJoin_c (xss:=[[1],bytesOf x.1,be x.2.1,be x.2.2.1,be x.2.2.2.1.length]) ((hm.arr.right hd).rows ⟨hm.tail.arr.right hd,hm.tail.tail.arr.right hd,hm.tail.tail.tail.arr.right hd,hm.tail.tail.tail.tail.arr.right hd,hm.tail.tail.tail.tail.tail.arr.right hd,trivial⟩) (by rw [hfl];omega)) ?_;rintro _ _ ⟨a25,c25,rfl,rfl⟩
    try simp only [zx1,zx2,zx3]
    rw [hfl];refine OD.q 1 rfl<|ODx.nil<|S.pk ?_ (S.weaken (Sub.app (.cons rfl (.nil)) (.cons rfl (.nil))) (key (a25,c25)))
    try dsimp only
    repeat (first|exact zpa|exact zpn|(apply zpc;focus (repeat (first|exact zh|apply zt)))|apply zps)
   ·refine ODt.callB (.p rfl) zD rfl zD rfl rfl (bs:=[OwnP Rp.u8 5 (.slice a12 x.1.length c12) x.1]) zN (fun m hm hd=>refBytes_c (hm.arr.right hd) zC) ?_
    rintro _ _ ⟨a13,c13,rfl,rfl⟩
    try simp only [zx1,zx2,zx3]
    refine OD.alt2 0 7 [7,10,14,15,16,17] [0,10,14,15,16,17] zD rfl rfl ?_ ?_
    ·refine ODt.litP (T:=Rp.u8) (ys:=[1]) (.p rfl) zD underlying31 elem5 zF rfl rfl ⟨rfl,trivial⟩ zF (fun a9 c9=>?_)
     refine OD.call0 (.p rfl) zD rfl zD rfl rfl (refNumber_c _) ?_;rintro _ _ ⟨a16,c16,rfl,rfl⟩
     try simp only [zx1,zx2,zx3]
     refine OD.call0 (.p rfl) zD rfl zD rfl rfl (refNumber_c _) ?_;rintro _ _ ⟨a19,c19,rfl,rfl⟩
     try simp only [zx1,zx2,zx3]
     refine OD.call0 (.p rfl) zD rfl zD rfl rfl (refNumber_c _) ?_;rintro _ _ ⟨a23,c23,rfl,rfl⟩
     try simp only [zx1,zx2,zx3]
     refine OD.litP (T:=Rp.val) (ys:=[_,_,_,_,_]) (.p rfl) zD underlying39 elem31 zF rfl rfl ⟨⟨rfl,rfl⟩,⟨rfl,rfl⟩,⟨rfl,rfl⟩,⟨rfl,rfl⟩,⟨rfl,rfl⟩,trivial⟩ zF (fun a24 c24=>?_);refine OD.callB (.p rfl) zD rfl zD rfl rfl (bs:=[OwnP Rp.val 31 (.slice a24 5 c24) [.slice a9 1 c9,.slice a13 (bytesOf x.1).length c13,.slice a16 8 c16,.slice a19 8 c19,.slice a23 8 c23],OwnP Rp.u8 5 (.slice a9 1 c9) [1],OwnP Rp.u8 5 (.slice a13 (bytesOf x.1).length c13) (bytesOf x.1),OwnP Rp.u8 5 (.slice a16 8 c16) (be x.2.1),OwnP Rp.u8 5 (.slice a19 8 c19) (be x.2.2.1),OwnP Rp.u8 5 (.slice a23 8 c23) (be x.2.2.2.1.length)]) zN (fun m hm hd=>refJoin_c (xss:=[[1],bytesOf x.1,be x.2.1,be x.2.2.1,be x.2.2.2.1.length]) ((hm.arr.right hd).rows ⟨hm.tail.arr.right hd,hm.tail.tail.arr.right hd,hm.tail.tail.tail.arr.right hd,hm.tail.tail.tail.tail.arr.right hd,hm.tail.tail.tail.tail.tail.arr.right hd,trivial⟩) (by rw [hfl];omega)) ?_;rintro _ _ ⟨a25,c25,rfl,rfl⟩
     try simp only [zx1,zx2,zx3]
     rw [hfl];refine OD.q 1 rfl<|ODx.nil<|S.pk ?_ (S.weaken (Sub.app (.cons rfl (.nil)) (.cons rfl (.nil))) (key (a25,c25)))
     try dsimp only
     repeat (first|exact zpa|exact zpn|(apply zpc;focus (repeat (first|exact zh|apply zt)))|apply zps)
    ·refine ODt.call0 (.p rfl) zD rfl zD rfl rfl (refNumber_c _) ?_
     rintro _ _ ⟨a16,c16,rfl,rfl⟩
     try simp only [zx1,zx2,zx3]
     refine OD.alt2 0 10 [10,14,15,16,17] [0,14,15,16,17] zD rfl rfl ?_ ?_
     ·refine ODt.litP (T:=Rp.u8) (ys:=[1]) (.p rfl) zD underlying31 elem5 zF rfl rfl ⟨rfl,trivial⟩ zF (fun a9 c9=>?_)
      refine OD.call0 (.p rfl) zD rfl zD rfl rfl (refNumber_c _) ?_;rintro _ _ ⟨a19,c19,rfl,rfl⟩
      try simp only [zx1,zx2,zx3]
      refine OD.call0 (.p rfl) zD rfl zD rfl rfl (refNumber_c _) ?_;rintro _ _ ⟨a23,c23,rfl,rfl⟩
      try simp only [zx1,zx2,zx3]
      refine OD.litP (T:=Rp.val) (ys:=[_,_,_,_,_]) (.p rfl) zD underlying39 elem31 zF rfl rfl ⟨⟨rfl,rfl⟩,⟨rfl,rfl⟩,⟨rfl,rfl⟩,⟨rfl,rfl⟩,⟨rfl,rfl⟩,trivial⟩ zF (fun a24 c24=>?_);refine OD.callB (.p rfl) zD rfl zD rfl rfl (bs:=[OwnP Rp.val 31 (.slice a24 5 c24) [.slice a9 1 c9,.slice a13 (bytesOf x.1).length c13,.slice a16 8 c16,.slice a19 8 c19,.slice a23 8 c23],OwnP Rp.u8 5 (.slice a9 1 c9) [1],OwnP Rp.u8 5 (.slice a13 (bytesOf x.1).length c13) (bytesOf x.1),OwnP Rp.u8 5 (.slice a16 8 c16) (be x.2.1),OwnP Rp.u8 5 (.slice a19 8 c19) (be x.2.2.1),OwnP Rp.u8 5 (.slice a23 8 c23) (be x.2.2.2.1.length)]) zN (fun m hm hd=>refJoin_c (xss:=[[1],bytesOf x.1,be x.2.1,be x.2.2.1,be x.2.2.2.1.length]) ((hm.arr.right hd).rows ⟨hm.tail.arr.right hd,hm.tail.tail.arr.right hd,hm.tail.tail.tail.arr.right hd,hm.tail.tail.tail.tail.arr.right hd,hm.tail.tail.tail.tail.tail.arr.right hd,trivial⟩) (by rw [hfl];omega)) ?_;rintro _ _ ⟨a25,c25,rfl,rfl⟩
      try simp only [zx1,zx2,zx3]
      rw [hfl];refine OD.q 1 rfl<|ODx.nil<|S.pk ?_ (S.weaken (Sub.app (.cons rfl (.nil)) (.cons rfl (.nil))) (key (a25,c25)))
      try dsimp only
      repeat (first|exact zpa|exact zpn|(apply zpc;focus (repeat (first|exact zh|apply zt)))|apply zps)
     ·refine ODt.call0 (.p rfl) zD rfl zD rfl rfl (refNumber_c _) ?_
      rintro _ _ ⟨a19,c19,rfl,rfl⟩
      try simp only [zx1,zx2,zx3]
      refine OD.alt2 0 14 [14,15,16,17] [0,15,16,17] zD rfl rfl ?_ ?_
      ·refine ODt.litP (T:=Rp.u8) (ys:=[1]) (.p rfl) zD underlying31 elem5 zF rfl rfl ⟨rfl,trivial⟩ zF (fun a9 c9=>?_)
       refine OD.call0 (.p rfl) zD rfl zD rfl rfl (refNumber_c _) ?_;rintro _ _ ⟨a23,c23,rfl,rfl⟩
       try simp only [zx1,zx2,zx3]
       refine OD.litP (T:=Rp.val) (ys:=[_,_,_,_,_]) (.p rfl) zD underlying39 elem31 zF rfl rfl ⟨⟨rfl,rfl⟩,⟨rfl,rfl⟩,⟨rfl,rfl⟩,⟨rfl,rfl⟩,⟨rfl,rfl⟩,trivial⟩ zF (fun a24 c24=>?_);refine OD.callB (.p rfl) zD rfl zD rfl rfl (bs:=[OwnP Rp.val 31 (.slice a24 5 c24) [.slice a9 1 c9,.slice a13 (bytesOf x.1).length c13,.slice a16 8 c16,.slice a19 8 c19,.slice a23 8 c23],OwnP Rp.u8 5 (.slice a9 1 c9) [1],OwnP Rp.u8 5 (.slice a13 (bytesOf x.1).length c13) (bytesOf x.1),OwnP Rp.u8 5 (.slice a16 8 c16) (be x.2.1),OwnP Rp.u8 5 (.slice a19 8 c19) (be x.2.2.1),OwnP Rp.u8 5 (.slice a23 8 c23) (be x.2.2.2.1.length)]) zN (fun m hm hd=>refJoin_c (xss:=[[1],bytesOf x.1,be x.2.1,be x.2.2.1,be x.2.2.2.1.length]) ((hm.arr.right hd).rows ⟨hm.tail.arr.right hd,hm.tail.tail.arr.right hd,hm.tail.tail.tail.arr.right hd,hm.tail.tail.tail.tail.arr.right hd,hm.tail.tail.tail.tail.tail.arr.right hd,trivial⟩) (by rw [hfl];omega)) ?_;rintro _ _ ⟨a25,c25,rfl,rfl⟩
       try simp only [zx1,zx2,zx3]
       rw [hfl];refine OD.q 1 rfl<|ODx.nil<|S.pk ?_ (S.weaken (Sub.app (.cons rfl (.nil)) (.cons rfl (.nil))) (key (a25,c25)))
       try dsimp only
       repeat (first|exact zpa|exact zpn|(apply zpc;focus (repeat (first|exact zh|apply zt)))|apply zps)
      ·refine ODt.call0 (.p rfl) zD rfl zD rfl rfl (refNumber_c _) ?_
       rintro _ _ ⟨a23,c23,rfl,rfl⟩
       try simp only [zx1,zx2,zx3]
       refine OD.litP (T:=Rp.u8) (ys:=[1]) (.p rfl) zD underlying31 elem5 zF rfl rfl ⟨rfl,trivial⟩ zF (fun a9 c9=>?_);refine OD.litP (T:=Rp.val) (ys:=[_,_,_,_,_]) (.p rfl) zD underlying39 elem31 zF rfl rfl ⟨⟨rfl,rfl⟩,⟨rfl,rfl⟩,⟨rfl,rfl⟩,⟨rfl,rfl⟩,⟨rfl,rfl⟩,trivial⟩ zF (fun a24 c24=>?_);refine OD.callB (.p rfl) zD rfl zD rfl rfl (bs:=[OwnP Rp.val 31 (.slice a24 5 c24) [.slice a9 1 c9,.slice a13 (bytesOf x.1).length c13,.slice a16 8 c16,.slice a19 8 c19,.slice a23 8 c23],OwnP Rp.u8 5 (.slice a9 1 c9) [1],OwnP Rp.u8 5 (.slice a13 (bytesOf x.1).length c13) (bytesOf x.1),OwnP Rp.u8 5 (.slice a16 8 c16) (be x.2.1),OwnP Rp.u8 5 (.slice a19 8 c19) (be x.2.2.1),OwnP Rp.u8 5 (.slice a23 8 c23) (be x.2.2.2.1.length)]) zN (fun m hm hd=>refJoin_c (xss:=[[1],bytesOf x.1,be x.2.1,be x.2.2.1,be x.2.2.2.1.length]) ((hm.arr.right hd).rows ⟨hm.tail.arr.right hd,hm.tail.tail.arr.right hd,hm.tail.tail.tail.arr.right hd,hm.tail.tail.tail.tail.arr.right hd,hm.tail.tail.tail.tail.tail.arr.right hd,trivial⟩) (by rw [hfl];omega)) ?_;rintro _ _ ⟨a25,c25,rfl,rfl⟩
       try simp only [zx1,zx2,zx3]
       rw [hfl];refine OD.q 1 rfl<|ODx.nil<|S.pk ?_ (S.weaken (Sub.app (.cons rfl (.nil)) (.cons rfl (.nil))) (key (a25,c25)))
       try dsimp only
       repeat (first|exact zpa|exact zpn|(apply zpc;focus (repeat (first|exact zh|apply zt)))|apply zps)
 refine S.seq<|S.seq<|S.region rfl<|O.q 1 rfl<|O.nil<|S.block<|S.ownIs (T:=Rp.u8) (e:=5) (v' :=.slice s.1 (recHead x++dotsB (x.2.2.2.1.take 0)).length s.2) (xs' :=recHead x++dotsB (x.2.2.2.1.take 0)) zB zG zG ?_;refine S.slot 3 (v' :=.slice s.1 (recHead x++dotsB (x.2.2.2.1.take 0)).length s.2) rfl zG ?_;refine S.loopK2 (ι:=Nat) (κ:=Option Addr × Nat) (fun i q=>i≤x.2.2.2.1.length) (fun i q=>[(3,.slice q.1 (recHead x++dotsB (x.2.2.2.1.take i)).length q.2),(4,.int .i64 (i:Int))]) [(1,_)] (fun i q=>[OwnP Rp.u8 5 (.slice q.1 (recHead x++dotsB (x.2.2.2.1.take i)).length q.2) (recHead x++dotsB (x.2.2.2.1.take i))]) (fun i q=>x.2.2.2.1.length - i) (0) (s) zG (.cons rfl (.cons rfl (.nil))) (.cons rfl (.nil)) rfl fun i q hx ih=>?_;have hm1:=meltRefl (g:=g);refine S.seq<|S.seq<|S.region rfl<|O.q 1 rfl<|O.op (.p rfl) (.fieldAddr fld74x3 rfl)<|O.op (.p rfl) (.loadAt flat72 rfl (hb1.drop 3) rfl) ?_;refine O.op (.p rfl) (.len rfl underlying72 rfl)<|O.op (.p rfl) (.lss rfl rfl)<|O.nil ?_
 first|refine S.condD rfl (fun h30=>?_) (fun h30=>?_)|refine S.condB rfl (fun h30=>?_) (fun h30=>?_)
 ·have hi:i<x.2.2.2.1.length:=by omega
  have htk:recHead x++dotsB (x.2.2.2.1.take i)++(be x.2.2.2.1[i].1++be x.2.2.2.1[i].2.1)=recHead x++dotsB (x.2.2.2.1.take (i+1)):=by rw [List.take_succ_eq_append_getElem hi,dotsB_snoc,List.append_assoc]
  have hln:(recHead x++dotsB (x.2.2.2.1.take i)).length≤1000:=by rw [List.length_append,dotsB_length,List.length_take];omega
  generalize recHead x++dotsB (x.2.2.2.1.take i)=so at htk hln ⊢;have hfl2:[so,be x.2.2.2.1[i].1,be x.2.2.2.1[i].2.1].flatten=recHead x++dotsB (x.2.2.2.1.take (i+1)):=by rw [← htk];simp
  have hl2:[so,be x.2.2.2.1[i].1,be x.2.2.2.1[i].2.1].flatten.length≤2000:=by simp;omega
  generalize hD:x.2.2.2.1[i]=dt at htk hfl2 hl2;refine S.skip<|S.seq<|S.block<|S.regionD (L:=[0,1,2,3,4,5,6,8,9,10,11,12,13,7,14,15,16,17]) F.mixed zD<|OD.q 1 rfl<|.quiet (.p rfl) rfl (fun _=>.fieldAddr fld74x3 rfl)<|.quiet (.p rfl) rfl (fun _=>.loadAt flat72 rfl (hb1.drop 3) rfl) ?_;refine OD.q 1 rfl<|OD.ia (.p rfl) underlying72 size166 rfl rfl rfl (k3) (h:=fun p37 cs37 hp37 hr37=>?_);obtain ⟨rfl,hi37,hj37⟩:=DotRp.open hr37;rw [hD] at hp37;refine .quiet (.p rfl) rfl (fun _=>.fieldAddr fld166x0 rfl)<|.quiet (.p rfl) rfl (fun _=>.loadAt flat3 rfl hp37 rfl) ?_;refine .quiet (.p rfl) rfl (fun _=>.fieldAddr fld74x3 rfl)<|.quiet (.p rfl) rfl (fun _=>.loadAt flat72 rfl (hb1.drop 3) rfl) ?_;refine OD.q 1 rfl<|OD.ia (.p rfl) underlying72 size166 rfl rfl rfl (k3) (h:=fun p44 cs44 hp44 hr44=>?_);obtain ⟨rfl,hi44,hj44⟩:=DotRp.open hr44;rw [hD] at hp44;refine .quiet (.p rfl) rfl (fun _=>.fieldAddr fld166x1 rfl)<|.quiet (.p rfl) rfl (fun _=>.loadAt flat3 rfl (hp44.drop 1) rfl) ?_;refine OD.call0 (.p rfl) zD rfl zD rfl rfl (refNumber_c _) ?_;rintro _ _ ⟨a40,c40,rfl,rfl⟩
  try simp only [zx1,zx2,zx3]
  refine OD.call0 (.p rfl) zD rfl zD rfl rfl (refNumber_c _) ?_;rintro _ _ ⟨a47,c47,rfl,rfl⟩
  try simp only [zx1,zx2,zx3]
  refine OD.litP (T:=Rp.val) (ys:=[_,_,_]) (.p rfl) zD underlying39 elem31 zF rfl rfl ⟨⟨rfl,rfl⟩,⟨rfl,rfl⟩,⟨rfl,rfl⟩,trivial⟩ zF (fun a48 c48=>?_);refine OD.callB (.p rfl) zD rfl zD rfl rfl (bs:=[OwnP Rp.val 31 (.slice a48 3 c48) [.slice q.1 so.length q.2,.slice a40 8 c40,.slice a47 8 c47],OwnP Rp.u8 5 (.slice q.1 so.length q.2) so,OwnP Rp.u8 5 (.slice a40 8 c40) (be dt.1),OwnP Rp.u8 5 (.slice a47 8 c47) (be dt.2.1)]) zN (fun m hm hd=>refJoin_c (xss:=[so,be dt.1,be dt.2.1]) ((hm.arr.right hd).rows ⟨hm.tail.arr.right hd,hm.tail.tail.arr.right hd,hm.tail.tail.tail.arr.right hd,trivial⟩) zC) ?_;rintro _ _ ⟨a49,c49,rfl,rfl⟩
  try simp only [zx1,zx2,zx3]
  rw [hfl2];refine OD.q 1 rfl<|ODx.nil<|S.inBlock<|S.region rfl<|O.q 1 rfl<|O.op (.p rfl) (.add rfl rfl (IntWalk.i64_in _ zC))<|O.q 1 rfl<|O.nil ?_;exact S.pw (ih (i+1) ((a49,c49)) zC zC)
 ·clear ih
  have hi:i=x.2.2.2.1.length:=by omega
  subst hi;rw [List.take_length];generalize hso:recHead x++dotsB x.2.2.2.1=so;have hsl:so.length≤2000:=by rw [← hso,List.length_append,dotsB_length];omega
  have hrt:[so,[goneB x.2.2.2.2.1],bytesOf x.2.2.2.2.2.1].flatten=recText x:=by rw [← hso];simp [recHead,recText]
  have hrl:(recText x).length≤100000:=by rw [recText_length];omega
  refine S.exit rfl<|S.seq<|S.region rfl<|O.q 1 rfl<|O.nil (S.seq (S.seq ?_))
  cases g4:x.2.2.2.2.1 with
  |false =>
   rw [g4] at hrt;refine S.region rfl<|O.op (.p rfl) (.fieldAddr fld74x4 rfl)<|O.op (.p rfl) (.loadAt flat4 rfl (hb1.drop 4) rfl) ?_;refine O.sF 51 rfl (by exact g4) ?_;refine O.nil<|S.condF rfl<|S.skip<|S.seq<|S.region rfl<|O.q 2 rfl<|O.opE (.p rfl) (.litP (T:=Rp.u8) (ys:=[goneB false]) underlying31 elem5 zF rfl rfl ⟨rfl,trivial⟩ zF) ?_;rintro _ _ ⟨a54,c54,rfl,rfl⟩;refine O.op (.p rfl) (.fieldAddr fld74x5 rfl)<|O.op (.p rfl) (.loadAt flat31 rfl (hb1.drop 5) rfl) ?_;refine O.call0 (.p rfl) rfl zD rfl rfl (refBytes_c (by first|assumption|exact Arr.mono hg zE|exact Arr.left zE|exact Arr.left (Arr.mono hg zE)) zK) ?_;rintro _ _ ⟨a57,c57,rfl,rfl⟩
   try simp only [zx1,zx2,zx3]
   refine O.opE (.p rfl) (.litP (T:=Rp.val) (ys:=[_,_,_]) underlying39 elem31 zF rfl rfl ⟨⟨rfl,rfl⟩,⟨rfl,rfl⟩,⟨rfl,rfl⟩,trivial⟩ zF) ?_;rintro _ _ ⟨a58,c58,rfl,rfl⟩;refine O.callB (.p rfl) rfl zD rfl rfl (bs:=[OwnP Rp.val 31 (.slice a58 3 c58) [.slice q.1 so.length q.2,.slice a54 1 c54,.slice a57 (bytesOf x.2.2.2.2.2.1).length c57],OwnP Rp.u8 5 (.slice q.1 so.length q.2) so,OwnP Rp.u8 5 (.slice a54 1 c54) [goneB false],OwnP Rp.u8 5 (.slice a57 (bytesOf x.2.2.2.2.2.1).length c57) (bytesOf x.2.2.2.2.2.1)]) zN (fun m hm hd=>refJoin_c (xss:=[so,[goneB false],bytesOf x.2.2.2.2.2.1]) ((hm.arr.right hd).rows ⟨hm.tail.arr.right hd,hm.tail.tail.arr.right hd,hm.tail.tail.tail.arr.right hd,trivial⟩) (by rw [hrt];omega)) ?_;rintro _ _ ⟨a59,c59,rfl,rfl⟩
   try simp only [zx1,zx2,zx3]
   rw [hrt];refine O.q 1 rfl<|O.nil ?_;exact S.rt results285 rfl hR ⟨a59,c59,rfl,rfl⟩
  |true =>
   rw [g4] at hrt;refine S.region rfl<|O.op (.p rfl) (.fieldAddr fld74x4 rfl)<|O.op (.p rfl) (.loadAt flat4 rfl (hb1.drop 4) rfl) ?_;refine O.sT 51 rfl (by exact g4) ?_;refine O.nil<|S.condT rfl<|S.region rfl<|O.q 1 rfl<|O.nil<|S.seq<|S.region rfl<|O.q 2 rfl<|O.opE (.p rfl) (.litP (T:=Rp.u8) (ys:=[goneB true]) underlying31 elem5 zF rfl rfl ⟨rfl,trivial⟩ zF) ?_;rintro _ _ ⟨a54,c54,rfl,rfl⟩;refine O.op (.p rfl) (.fieldAddr fld74x5 rfl)<|O.op (.p rfl) (.loadAt flat31 rfl (hb1.drop 5) rfl) ?_;refine O.call0 (.p rfl) rfl zD rfl rfl (refBytes_c (by first|assumption|exact Arr.mono hg zE|exact Arr.left zE|exact Arr.left (Arr.mono hg zE)) zK) ?_;rintro _ _ ⟨a57,c57,rfl,rfl⟩
   try simp only [zx1,zx2,zx3]
   refine O.opE (.p rfl) (.litP (T:=Rp.val) (ys:=[_,_,_]) underlying39 elem31 zF rfl rfl ⟨⟨rfl,rfl⟩,⟨rfl,rfl⟩,⟨rfl,rfl⟩,trivial⟩ zF) ?_;rintro _ _ ⟨a58,c58,rfl,rfl⟩;refine O.callB (.p rfl) rfl zD rfl rfl (bs:=[OwnP Rp.val 31 (.slice a58 3 c58) [.slice q.1 so.length q.2,.slice a54 1 c54,.slice a57 (bytesOf x.2.2.2.2.2.1).length c57],OwnP Rp.u8 5 (.slice q.1 so.length q.2) so,OwnP Rp.u8 5 (.slice a54 1 c54) [goneB true],OwnP Rp.u8 5 (.slice a57 (bytesOf x.2.2.2.2.2.1).length c57) (bytesOf x.2.2.2.2.2.1)]) zN (fun m hm hd=>refJoin_c (xss:=[so,[goneB true],bytesOf x.2.2.2.2.2.1]) ((hm.arr.right hd).rows ⟨hm.tail.arr.right hd,hm.tail.tail.arr.right hd,hm.tail.tail.tail.arr.right hd,trivial⟩) (by rw [hrt];omega)) ?_;rintro _ _ ⟨a59,c59,rfl,rfl⟩
   try simp only [zx1,zx2,zx3]
   rw [hrt];refine O.q 1 rfl<|O.nil ?_;exact S.rt results285 rfl hR ⟨a59,c59,rfl,rfl⟩
theorem r8put_c {r:Fr} {cs:List Value} {x:RecT} (h:RecRp.rel r cs x) :
  Con prog 214 #[.agg cs.toArray] r [] (Ret fun v η=>∃ a c,v=.tuple #[.slice a (recOut x).length c,.int .i64 (recErr x)]∧η=[OwnP Rp.u8 5 (.slice a (recOut x).length c) (recOut x)]):=by
 obtain ⟨xa3,xa5,xa6,xc3,xc5,xc6,rfl,k0,k1,k2,k3,k5,k6⟩:=RecRp.sh h;refine Con.of (n:=13) _ rfl func214 rfl rfl rfl fun g hg R hR=>?_;have h:=h.mono hg;have k6:=k6.mono hg;refine S.seq<|S.region rfl<|O.opE (.p rfl) (.box (cs:=[_,_,_,_,_,_,_]) rfl rfl) ?_;rintro _ _ ⟨b1,rfl,rfl⟩;refine O.q 2 rfl<|O.nil<|S.seq<|S.seq<|S.frzO zB fun g hs hm hb1=>?_;replace hg:=Fr.sub_trans hg hs;replace hR:=melted hR hm
 try replace h:=h.mono hs
 try replace k6:=k6.mono hs
 clear hs hm
 cases e:recOk x with
 |false =>
  have e1:recOut x=[]:=by simp [recOut,e]
  have e2:recErr x=4:=by simp [recErr,e]
  rw [e1,e2] at hR;refine S.region rfl<|O.op (.p rfl) (.loadAgg isAgg74 zD rfl hb1) ?_;refine O.call0 (.p rfl) rfl zD rfl rfl ((r8right_c h)) ?_;rintro _ _ ⟨rfl,rfl⟩
  try simp only [zx1,zx2,zx3]
  refine O.sF 5 rfl (by exact e) ?_;refine O.op (.p rfl) (.not rfl)<|O.nil<|S.condT rfl<|S.seq<|S.region rfl<|O.q 2 rfl<|O.nil<|S.addNil (T:=Rp.u8) (e:=5) ?_;refine S.ret2 results214 rfl rfl fun w hw=>Holds.end_ hR hw ?_;exact pk ⟨none,0,rfl,rfl⟩
 |true =>
  have e1:recOut x=recB x:=by simp [recOut,e]
  have e2:recErr x=0:=by simp [recErr,e]
  rw [e1,e2] at hR;have hs:=(recOk_iff.1 e).1;have hbl:=recB_le e;have htl:=recText_le hs;have hfl:[recText x,x.2.2.2.2.2.2.1].flatten=recB x:=by simp [recB]
  refine S.region rfl<|O.op (.p rfl) (.loadAgg isAgg74 zD rfl hb1) ?_;refine O.call0 (.p rfl) rfl zD rfl rfl ((r8right_c h)) ?_;rintro _ _ ⟨rfl,rfl⟩
  try simp only [zx1,zx2,zx3]
  refine O.sT 5 rfl (by exact e) ?_;refine O.op (.p rfl) (.not rfl)<|O.nil<|S.condF rfl<|S.skip<|S.seq<|S.regionD (L:=[0,2,3,1,4,5,6,7]) F.mixed zD<|.quiet (.p rfl) rfl (fun _=>.loadAgg isAgg74 zD rfl hb1) ?_;refine .quiet (.p rfl) rfl (fun _=>.fieldAddr fld74x6 rfl)<|.quiet (.p rfl) rfl (fun _=>.loadAt flat31 rfl (hb1.drop 6) rfl) ?_;refine OD.call0 (.p rfl) zD rfl zD rfl rfl ((r8text_c h hs)) ?_;rintro _ _ ⟨a8,c8,rfl,rfl⟩
  try simp only [zx1,zx2,zx3]
  refine OD.litP (T:=Rp.val) (ys:=[_,_]) (.p rfl) zD underlying39 elem31 zF rfl rfl ⟨⟨rfl,rfl⟩,⟨rfl,rfl⟩,trivial⟩ zF (fun a11 c11=>?_);refine OD.callB (.p rfl) zD rfl zD rfl rfl (bs:=[OwnP Rp.val 31 (.slice a11 2 c11) [.slice a8 (recText x).length c8,.slice xa6 x.2.2.2.2.2.2.1.length xc6],OwnP Rp.u8 5 (.slice a8 (recText x).length c8) (recText x)]) zN (fun m hm hd=>refJoin_c (xss:=[recText x,x.2.2.2.2.2.2.1]) ((hm.arr.right hd).rows ⟨hm.tail.arr.right hd,k6.left,trivial⟩) (by rw [hfl];omega)) ?_;rintro _ _ ⟨a12,c12,rfl,rfl⟩
  try simp only [zx1,zx2,zx3]
  rw [hfl];refine OD.q 2 rfl<|ODx.nil<|S.ret2 results214 rfl rfl fun w hw=>Holds.end_ hR hw ?_;exact pk ⟨a12,c12,rfl,rfl⟩
theorem r9ahead_c {r:Fr} {cs ds:List Value} {x y:RecT} (h:RecRp.rel r cs x) (h' :RecRp.rel r ds y):Con prog 110 #[.agg cs.toArray,.agg ds.toArray] r [] (Ret fun v η=>v=.bool (decide (cmpR x y<0))∧η=[]):=by
 obtain ⟨xa3,xa5,xa6,xc3,xc5,xc6,rfl,k0,k1,k2,k3,k5,k6⟩:=RecRp.sh h;obtain ⟨ya3,ya5,ya6,yc3,yc5,yc6,rfl,j0,j1,j2,j3,j5,j6⟩:=RecRp.sh h';have hc:=cmpR_lt (a:=x) (b:=y);refine Con.of (n:=24) _ rfl func110 rfl rfl rfl fun g hg R hR=>?_;refine S.seq<|S.region rfl<|O.opE (.p rfl) (.box (cs:=[_,_,_,_,_,_,_]) rfl rfl) ?_;rintro _ _ ⟨b2,rfl,rfl⟩;refine O.opE (.p rfl) (.box (cs:=[_,_,_,_,_,_,_]) rfl rfl) ?_;rintro _ _ ⟨b3,rfl,rfl⟩;refine O.q 1 rfl<|O.nil<|S.seq<|S.region rfl<|O.op (.p rfl) (.fieldObj fld74x1 rfl)<|O.op (.p rfl) (.lo flat3) ?_;refine O.op (.p rfl) (.fieldObj fld74x1 rfl)<|O.op (.p rfl) (.lo flat3) ?_;refine O.op (.p rfl) (.lss rfl rfl)<|O.q 1 rfl ?_
 first|refine O.caseD 10 rfl (fun h10=>?_) (fun h10=>?_)|refine O.caseB 10 rfl (fun h10=>?_) (fun h10=>?_)
 ·refine O.q 14 rfl<|O.nil<|S.ret results110 rfl fun w hw=>Holds.end_ hR hw ?_
  first|exact ⟨_,⟨congrArg _ (decide_eq_true (hc.2 zC)).symm,rfl⟩,by repeat (first|exact zpa|exact zpn|(apply zpc;focus (repeat (first|exact zh|apply zt)))|apply zps)⟩|exact ⟨_,⟨congrArg _ (decide_eq_false (fun q=>absurd (hc.1 q) zC)).symm,rfl⟩,by repeat (first|exact zpa|exact zpn|(apply zpc;focus (repeat (first|exact zh|apply zt)))|apply zps)⟩|exact ⟨_,⟨congrArg _ (decide_eq_decide.2 (by rw [hc];omega)),rfl⟩,by repeat (first|exact zpa|exact zpn|(apply zpc;focus (repeat (first|exact zh|apply zt)))|apply zps)⟩
 ·refine O.op (.g rfl rfl) (.fieldObj fld74x1 rfl)<|O.op (.g rfl rfl) (.lo flat3) ?_
  refine O.op (.g rfl rfl) (.fieldObj fld74x1 rfl)<|O.op (.g rfl rfl) (.lo flat3) ?_;refine O.op (.g rfl rfl) (.eql rfl rfl)<|O.q 1 rfl ?_
  first|refine O.caseD 16 rfl (fun h16=>?_) (fun h16=>?_)|refine O.caseB 16 rfl (fun h16=>?_) (fun h16=>?_)
  ·refine O.op (.g rfl rfl) (.fieldObj fld74x2 rfl)<|O.op (.g rfl rfl) (.lo flat3) ?_
   refine O.op (.g rfl rfl) (.fieldObj fld74x2 rfl)<|O.op (.g rfl rfl) (.lo flat3) ?_;refine O.op (.g rfl rfl) (.lss rfl rfl)<|O.q 3 rfl<|O.nil<|S.ret results110 rfl fun w hw=>Holds.end_ hR hw ?_
   first|exact ⟨_,⟨congrArg _ (decide_eq_true (hc.2 zC)).symm,rfl⟩,by repeat (first|exact zpa|exact zpn|(apply zpc;focus (repeat (first|exact zh|apply zt)))|apply zps)⟩|exact ⟨_,⟨congrArg _ (decide_eq_false (fun q=>absurd (hc.1 q) zC)).symm,rfl⟩,by repeat (first|exact zpa|exact zpn|(apply zpc;focus (repeat (first|exact zh|apply zt)))|apply zps)⟩|exact ⟨_,⟨congrArg _ (decide_eq_decide.2 (by rw [hc];omega)),rfl⟩,by repeat (first|exact zpa|exact zpn|(apply zpc;focus (repeat (first|exact zh|apply zt)))|apply zps)⟩
  ·refine O.q 8 rfl<|O.nil<|S.ret results110 rfl fun w hw=>Holds.end_ hR hw ?_
   first|exact ⟨_,⟨congrArg _ (decide_eq_true (hc.2 zC)).symm,rfl⟩,by repeat (first|exact zpa|exact zpn|(apply zpc;focus (repeat (first|exact zh|apply zt)))|apply zps)⟩|exact ⟨_,⟨congrArg _ (decide_eq_false (fun q=>absurd (hc.1 q) zC)).symm,rfl⟩,by repeat (first|exact zpa|exact zpn|(apply zpc;focus (repeat (first|exact zh|apply zt)))|apply zps)⟩|exact ⟨_,⟨congrArg _ (decide_eq_decide.2 (by rw [hc];omega)),rfl⟩,by repeat (first|exact zpa|exact zpn|(apply zpc;focus (repeat (first|exact zh|apply zt)))|apply zps)⟩
theorem r9one_c {r:Fr} {va:Value} {l:List RecT} (ha:Arr RecRp r va l):Con prog 107 #[va] r [] (Ret fun v η=>v=.bool (oneK l)∧η=[]):=by
 have har:=ha;refine Con.of (n:=28) _ rfl func107 rfl rfl rfl fun g hg R hR=>?_;have ha:=ha.mono hg;have hbd:=ha.bound;obtain ⟨a1,c1,rfl⟩:=ha.shape;refine S.seq<|S.region rfl<|O.q 1 rfl<|O.nil<|S.seq<|S.seq<|S.region rfl<|O.q 1 rfl<|O.nil<|S.block<|S.loopK (ι:=Nat) (fun i=>i≤l.length∧oneK (l.take i)=true) (fun i=>[(3,.int .i64 (i:Int))]) [(0,_)] (fun i=>[]) (fun i=>l.length - i) (0) zP (.cons rfl (.nil)) (.cons rfl (.nil)) rfl fun i hx ih=>?_;have hm1:=meltRefl (g:=g);obtain ⟨hx1,hx2⟩:=hx;refine S.seq<|S.seq<|S.region rfl<|O.q 2 rfl<|O.op (.p rfl) (.len rfl underlying47 rfl)<|O.op (.p rfl) (.lss rfl rfl)<|O.nil ?_
 first|refine S.condD rfl (fun h7=>?_) (fun h7=>?_)|refine S.condB rfl (fun h7=>?_) (fun h7=>?_)
 ·have hi:i<l.length:=by omega
  have h0:0<l.length:=by omega
  have hst:=oneK_step hi hx2
  cases e1:recOk l[i] with
  |false =>
   have hno:oneK l=false:=oneK_none (i:=i+1) (Bool.eq_false_iff.2 fun q=>by rw [e1] at hst;exact absurd (hst.1 q).1 zG);refine S.skip<|S.seq<|S.block<|S.seq<|S.regionD (L:=[0,1,2,3,4,5,6,7,8,9,10,11,12,13,14,15,16,17]) F.mixed zD<|OD.q 2 rfl<|OD.ib (.p rfl) underlying47 size74 rfl rfl rfl har hg (h:=fun p12 cs12 hp12 hrr12=>?_);have hr12:=Rp.rel.mono hrr12 hg;obtain ⟨ra3_12,ra5_12,ra6_12,rc3_12,rc5_12,rc6_12,rfl,ho0_12,ho1_12,ho2_12,ha3_12,ha5_12,ha6_12⟩:=RecRp.sh hr12;refine .quiet (.p rfl) rfl (fun _=>.loadAgg isAgg74 zD rfl hp12) ?_;refine OD.call0 (.p rfl) zD rfl zD rfl rfl ((r8right_c hr12)) ?_;rintro _ _ ⟨rfl,rfl⟩
   try simp only [zx1,zx2,zx3]
   refine OD.sF 14 rfl (by exact e1) ?_;refine .quiet (.p rfl) rfl (fun _=>.not rfl)<|OD.q 12 rfl<|ODx.nil<|S.condT rfl<|S.seq<|S.region rfl<|O.q 1 rfl<|O.nil ?_;exact S.rt results107 rfl hR ⟨by rw [hno],rfl⟩
  |true =>
   by_cases e2:l[i].1=l[0].1
   ·
    refine S.skip<|S.seq<|S.block<|S.seq<|S.regionD (L:=[0,1,2,3,4,5,6,7,8,9,10,11,12,13,14,15,16,17]) F.mixed zD<|OD.q 2 rfl<|OD.ib (.p rfl) underlying47 size74 rfl rfl rfl har hg (h:=fun p12 cs12 hp12 hrr12=>?_);have hr12:=Rp.rel.mono hrr12 hg;obtain ⟨ra3_12,ra5_12,ra6_12,rc3_12,rc5_12,rc6_12,rfl,ho0_12,ho1_12,ho2_12,ha3_12,ha5_12,ha6_12⟩:=RecRp.sh hr12;refine .quiet (.p rfl) rfl (fun _=>.loadAgg isAgg74 zD rfl hp12) ?_;refine OD.call0 (.p rfl) zD rfl zD rfl rfl ((r8right_c hr12)) ?_;rintro _ _ ⟨rfl,rfl⟩
    try simp only [zx1,zx2,zx3]
    refine OD.sT 14 rfl (by exact e1) ?_;refine .quiet (.p rfl) rfl (fun _=>.not rfl)<|OD.q 3 rfl<|OD.ib (.g rfl rfl) underlying47 size74 rfl rfl rfl har hg (h:=fun p19 cs19 hp19 hrr19=>?_);have hr19:=Rp.rel.mono hrr19 hg;obtain ⟨ra3_19,ra5_19,ra6_19,rc3_19,rc5_19,rc6_19,rfl,ho0_19,ho1_19,ho2_19,ha3_19,ha5_19,ha6_19⟩:=RecRp.sh hr19;refine .quiet (.g rfl rfl) rfl (fun _=>.fieldAddr fld74x0 rfl)<|.quiet (.g rfl rfl) rfl (fun _=>.loadAt flat9 rfl hp19 rfl) ?_;refine OD.q 1 rfl<|OD.ib (.g rfl rfl) underlying47 size74 rfl rfl (show _=(((0):Nat):Int) by omega) har hg (h:=fun p23 cs23 hp23 hrr23=>?_);have hr23:=Rp.rel.mono hrr23 hg;obtain ⟨ra3_23,ra5_23,ra6_23,rc3_23,rc5_23,rc6_23,rfl,ho0_23,ho1_23,ho2_23,ha3_23,ha5_23,ha6_23⟩:=RecRp.sh hr23;refine .quiet (.g rfl rfl) rfl (fun _=>.fieldAddr fld74x0 rfl)<|.quiet (.g rfl rfl) rfl (fun _=>.loadAt flat9 rfl hp23 rfl) ?_;refine .quiet (.g rfl rfl) rfl (fun _=>.neqS rfl rfl)<|OD.sF 26 rfl (by simp [e2]) ?_;refine OD.q 1 rfl<|ODx.nil<|S.condF rfl<|S.skip<|S.inBlock<|S.region rfl<|O.q 1 rfl<|O.op (.p rfl) (.add rfl rfl (IntWalk.i64_in _ zC))<|O.q 1 rfl<|O.nil ?_;exact S.wk (ih (i+1) (by exact ⟨by omega,hst.2 ⟨e1,e2⟩⟩) zC)
   ·have hno:oneK l=false:=oneK_none (i:=i+1) (Bool.eq_false_iff.2 fun q=>e2 (hst.1 q).2)
    refine S.skip<|S.seq<|S.block<|S.seq<|S.regionD (L:=[0,1,2,3,4,5,6,7,8,9,10,11,12,13,14,15,16,17]) F.mixed zD<|OD.q 2 rfl<|OD.ib (.p rfl) underlying47 size74 rfl rfl rfl har hg (h:=fun p12 cs12 hp12 hrr12=>?_);have hr12:=Rp.rel.mono hrr12 hg;obtain ⟨ra3_12,ra5_12,ra6_12,rc3_12,rc5_12,rc6_12,rfl,ho0_12,ho1_12,ho2_12,ha3_12,ha5_12,ha6_12⟩:=RecRp.sh hr12;refine .quiet (.p rfl) rfl (fun _=>.loadAgg isAgg74 zD rfl hp12) ?_;refine OD.call0 (.p rfl) zD rfl zD rfl rfl ((r8right_c hr12)) ?_;rintro _ _ ⟨rfl,rfl⟩
    try simp only [zx1,zx2,zx3]
    refine OD.sT 14 rfl (by exact e1) ?_;refine .quiet (.p rfl) rfl (fun _=>.not rfl)<|OD.q 3 rfl<|OD.ib (.g rfl rfl) underlying47 size74 rfl rfl rfl har hg (h:=fun p19 cs19 hp19 hrr19=>?_);have hr19:=Rp.rel.mono hrr19 hg;obtain ⟨ra3_19,ra5_19,ra6_19,rc3_19,rc5_19,rc6_19,rfl,ho0_19,ho1_19,ho2_19,ha3_19,ha5_19,ha6_19⟩:=RecRp.sh hr19;refine .quiet (.g rfl rfl) rfl (fun _=>.fieldAddr fld74x0 rfl)<|.quiet (.g rfl rfl) rfl (fun _=>.loadAt flat9 rfl hp19 rfl) ?_;refine OD.q 1 rfl<|OD.ib (.g rfl rfl) underlying47 size74 rfl rfl (show _=(((0):Nat):Int) by omega) har hg (h:=fun p23 cs23 hp23 hrr23=>?_);have hr23:=Rp.rel.mono hrr23 hg;obtain ⟨ra3_23,ra5_23,ra6_23,rc3_23,rc5_23,rc6_23,rfl,ho0_23,ho1_23,ho2_23,ha3_23,ha5_23,ha6_23⟩:=RecRp.sh hr23;refine .quiet (.g rfl rfl) rfl (fun _=>.fieldAddr fld74x0 rfl)<|.quiet (.g rfl rfl) rfl (fun _=>.loadAt flat9 rfl hp23 rfl) ?_;refine .quiet (.g rfl rfl) rfl (fun _=>.neqS rfl rfl)<|OD.sT 26 rfl (by simp [e2]) ?_;refine OD.q 1 rfl<|ODx.nil<|S.condT rfl<|S.seq<|S.region rfl<|O.q 1 rfl<|O.nil ?_;exact S.rt results107 rfl hR ⟨by rw [hno],rfl⟩
 ·clear ih
  have hi:i=l.length:=by omega
  subst hi;rw [List.take_length] at hx2;refine S.exit rfl<|S.seq<|S.region rfl<|O.q 1 rfl<|O.nil ?_;exact S.rt results107 rfl hR ⟨by rw [hx2],rfl⟩
theorem r9text_c {r:Fr} {cs:List Value} {x:RecT} (h:RecRp.rel r cs x):Con prog 108 #[.agg cs.toArray] r [] (Ret fun v η=>v=.string (str (recOut x))∧η=[]):=by
 obtain ⟨xa3,xa5,xa6,xc3,xc5,xc6,rfl,k0,k1,k2,k3,k5,k6⟩:=RecRp.sh h;refine Con.of (n:=12) _ rfl func108 rfl rfl rfl fun g hg R hR=>?_;have h:=h.mono hg;refine S.seq<|S.region rfl<|O.opE (.p rfl) (.box (cs:=[_,_,_,_,_,_,_]) rfl rfl) ?_;rintro _ _ ⟨b1,rfl,rfl⟩;refine O.q 1 rfl<|O.nil<|S.seq<|S.frzO zB fun g hs hm hb1=>?_;replace hg:=Fr.sub_trans hg hs;replace hR:=melted hR hm
 try replace h:=h.mono hs
 clear hs hm;refine S.region rfl<|O.op (.p rfl) (.loadAgg isAgg74 zD rfl hb1) ?_;refine O.call0 (.p rfl) rfl zD rfl rfl ((r8put_c h)) ?_;rintro _ _ ⟨a7,c7,rfl,rfl⟩
 try simp only [zx1,zx2,zx3]
 refine O.q 5 rfl<|O.nil<|S.seq<|S.frzA zB fun g hs hm hz=>?_;replace hg:=Fr.sub_trans hg hs;replace hR:=melted hR hm
 try replace h:=h.mono hs
 try replace hb1:=hb1.mono hs
 clear hs hm;refine S.region rfl<|O.q 1 rfl<|O.op (.p rfl) (.toStr underlying31 underlying5 underlying9 rfl (by first|assumption|exact Arr.mono hg zE|exact Arr.left zE|exact Arr.left (Arr.mono hg zE))) ?_;refine O.q 1 rfl<|O.nil ?_;exact S.rt results108 rfl hR ⟨rfl,rfl⟩
theorem listP_one {v:Value} {xs:List RecT} {m:Fr} (h:Sat [ListP (RecG tys) 74 v xs] m):Arr RecRp m v xs:=by
 obtain ⟨m1,_,_,s1,_,x,_⟩:=h;exact (ListP.arr x).mono s1
end Go.Proofs.YtodhbhanmdfdeaaGreat
