/- Texts of this proof. -/
import Derived.Test.YtodhbhanmdfdeaaGreatQBytesx
import Derived.Test.YtodhbhanmdfdeaaGreatQSpGet
open Go Go.Sp Go.Proofs.Tryz
set_option maxRecDepth 100000
set_option maxHeartbeats 1000000
attribute [local irreducible] obj Own OwnP
namespace Go.Proofs.YtodhbhanmdfdeaaGreat
theorem triedSP_ret {g:Gr} {be bx:Nat} {x:Value} {z:Int} {T1 T2:TypeId} {w:World} {R:Ending→World→Prop} {η:List SProp} (hw:Holds w g (obj bx T1 [x]::obj be T2 [.int .i64 z]::η)) (hR:∀ w,Holds w g (obj bx T1 [x]::obj be T2 [.int .i64 z]::η)→R (.returned (.tuple #[x,.int .i64 z])) w) :
  CallsD prog 222 #[.pointer (some ⟨be,0,none⟩),.pointer (some ⟨bx,0,none⟩)] .returning w (DPost2 prog g bx be 155 32 R):=by
 refine (callsD_rec (R:=fun e w=>(∃ v,e=.returned v)∧Holds w g (obj bx T1 [x]::obj be T2 [.int .i64 z]::η)) [.pointer (some ⟨be,0,none⟩),.pointer (some ⟨bx,0,none⟩)] rfl func222 rfl rfl rfl rfl hw ?_).mono ?_
 rotate_left
 ·rintro e u' w' ⟨rfl,⟨v,rfl⟩,h⟩
  exact ⟨⟨v,rfl⟩,rfl,T1,T2,_,_,_,_,η,h,LoadsAs.flat flat155,LoadsAs.flat flat32,hR w' h⟩
 refine S.seq<|S.region rfl<|O.q 1 rfl<|O.op (.p rfl) (.neqIN underlying20 rfl)<|O.nil<|S.condF rfl<|S.skip<|S.end0 results222 fun w hw=>?_;exact ⟨⟨_,rfl⟩,hw⟩
theorem triedSP_pan {g:Gr} {be bx:Nat} {x:Value} {z z' :Int} {T1 T2:TypeId} {w:World} {R:Ending→World→Prop} {η:List SProp} (hw:Holds w g (obj bx T1 [x]::obj be T2 [.int .i64 z']::η))
  (hR:∀ w,Holds w g (obj bx T1 [.pointer none]::obj be T2 [.int .i64 z]::η)→R (.returned (.tuple #[.pointer none,.int .i64 z])) w) :
  CallsD prog 222 #[.pointer (some ⟨be,0,none⟩),.pointer (some ⟨bx,0,none⟩)] (.panicking (errP 32 z)) w (DPost2 prog g bx be 155 32 R):=by
 refine (callsD_rec (R:=fun e w=>(∃ v,e=.returned v)∧Holds w g (obj bx T1 [.pointer none]::obj be T2 [.int .i64 z]::η)) [.pointer (some ⟨be,0,none⟩),.pointer (some ⟨bx,0,none⟩)] rfl func222 rfl rfl rfl rfl hw ?_).mono ?_
 rotate_left
 ·rintro e u' w' ⟨rfl,⟨v,rfl⟩,h⟩
  exact ⟨⟨v,rfl⟩,rfl,T1,T2,_,_,_,_,η,h,LoadsAs.flat flat155,LoadsAs.flat flat32,hR w' h⟩
 refine S.seq<|S.region rfl<|O.q 1 rfl<|O.op (.p rfl) (.neqIV underlying20 rfl)<|O.nil<|S.condT rfl<|S.seq<|S.region rfl<|O.q 1 rfl<|O.nil<|S.seq<|S.seq<|S.region rfl<|O.q 1 rfl<|O.op (.p rfl) (.assertYes underlying32 rfl)<|O.q 3 rfl<|O.opU rfl (.store1 flat32 rfl rfl zM zE zI) ?_;refine O.q 1 rfl<|O.nil<|S.seq<|S.region rfl<|O.q 1 rfl<|O.op (.p rfl) (.not rfl)<|O.nil<|S.condF rfl<|S.skip<|S.seq<|S.region rfl<|O.q 1 rfl<|O.nil<|S.region rfl<|O.q 1 rfl<|O.opU rfl (.store1 flat155 rfl rfl zM zE zI) ?_;refine O.nil<|S.end0 results222 fun w hw=>?_;exact ⟨⟨_,rfl⟩,hw.picks zR⟩
theorem triedSP_c {r:Fr} {f:Nat} {first cap:Array Value} {K:Value→List SProp→Prop} {X:Int→Prop} (hc:callable prog f=true) (hf1:(Value.func (.func f) first cap).oneCell' =true) (hK1:∀ u ζ,K u ζ→u.oneCell' =true)
  (con:Con prog f (first++#[]++cap) r [] (RetP K (fun ch η=>∃ z,ch=errP 32 z∧X z∧η=[]))) :
  Con prog 120 #[.func (.func f) first cap] r [] (Ret fun v η=>(∃ u,K u η∧v=.tuple #[u,.int .i64 0])∨(∃ z,X z∧η=[]∧v=.tuple #[.pointer none,.int .i64 z])):=by
 refine Con.of (n:=7) [.func (.func f) first cap] rfl func120 rfl rfl rfl fun g hg R hR=>?_;refine S.seq<|S.region rfl<|O.opE (.p rfl) (.alloc (cs:=[.pointer none]) zeroValue155 rfl) ?_;rintro _ _ ⟨b2,rfl,rfl⟩;refine O.opE (.p rfl) (.alloc (cs:=[.int .i64 0]) zeroValue32 rfl) ?_;rintro _ _ ⟨b3,rfl,rfl⟩;refine O.nil<|S.seq<|S.region rfl<|O.op (.p rfl) (.mkFunc rfl rfl)<|O.defer rfl rfl rfl rfl ?_;refine O.nil<|S.seq<|S.region rfl<|O.q 1 rfl<|O.callP0D (.p rfl) rfl hc rfl rfl (con.sub hg) (fun a ch η' w hF hX hW=>by (obtain ⟨z,rfl,hx,rfl⟩:=hX;exact leavesCell2 results120 hF rfl rfl zG zB (triedSP_pan (hW.picks zR) fun w hw=>Holds.end_ hR hw ⟨_,.inr ⟨z,hx,rfl,rfl⟩,by repeat (first|exact zpa|exact zpn|(apply zpc;focus (repeat (first|exact zh|apply zt)))|apply zps)⟩))) ?_;rintro v6 _ hk6
 try simp only [zx1,zx2,zx3]
 have hone:=hK1 _ _ hk6;refine O.perm (List.perm_append_comm) ?_;simp only [List.cons_append,List.nil_append];refine O.opU rfl (.store1 flat155 rfl rfl zM zE zI) ?_;refine O.opU rfl (.store1 flat32 rfl rfl zM zE zI) ?_;refine O.nil<|S.retL fun a w hf hd hw=>?_;exact leavesCell2 results120 hf rfl rfl zG zB (triedSP_ret (hw.picks zR) fun w hw=>Holds.end_ hR hw ⟨_,.inl ⟨_,hk6,rfl⟩,by repeat (first|exact zpa|exact zpn|(apply zpc;focus (repeat (first|exact zh|apply zt)))|apply zps)⟩)
theorem sright1_c {r:Fr} {p:Nat} {va:Value} {xs:List RecT} (hp:At r ⟨p,0,none⟩ [va]) (ha:Arr RecRp r va xs) (hl:xs.length≤100000000000) :
  Con prog 121 (#[]++#[]++#[.pointer (some ⟨p,0,none⟩)]) r [] (RetP (fun v η=>SRight xs∧∃ b,v=.pointer (some ⟨b,0,none⟩)∧η=[RowP r 148 158 5 b xs]) (fun ch η=>∃ z,ch=errP 32 z∧(¬ SRight xs∧z=4)∧η=[])):=by
 refine Con.of (n:=4) [.pointer (some ⟨p,0,none⟩)] rfl func121 rfl rfl rfl fun g hg R hR=>?_;have hp:=hp.mono hg;obtain ⟨a1,c1,rfl⟩:=ha.shape;refine S.seq<|S.region rfl<|O.q 1 rfl<|O.nil<|S.seq<|S.region rfl<|O.op (.p rfl) (.loadAt flat47 rfl hp rfl) ?_;refine O.callP0 (.p rfl) rfl zB rfl rfl (((rowOf_c ha hl).sub hg)) (fun ch η' w hX hW=>by (obtain ⟨hb,rfl,rfl⟩:=hX;exact hR _ _ w ⟨4,rfl,⟨hb,rfl⟩,rfl⟩ hW.drop_all)) ?_;rintro _ _ ⟨hright,b3,rfl,rfl⟩
 try simp only [zx1,zx2,zx3]
 refine O.q 1 rfl<|O.nil ?_;exact S.rt results121 rfl hR ⟨hright,b3,rfl,rfl⟩
theorem sRight_c {r:Fr} {va:Value} {xs:List RecT} (ha:Arr RecRp r va xs) (hl:xs.length≤100000000000) :
  Con prog 45 #[va] r [] (Ret fun v η=>v=.bool (decide (SRight xs))∧η=[]):=by
 refine Con.of (n:=12) _ rfl func45 rfl rfl rfl fun g hg R hR=>?_;have ha:=ha.mono hg;obtain ⟨a1,c1,rfl⟩:=ha.shape;refine S.seq<|S.region rfl<|O.opE (.p rfl) (.box (cs:=[_]) rfl rfl) ?_;rintro _ _ ⟨b1,rfl,rfl⟩;refine O.q 1 rfl<|O.nil<|S.seq<|S.frzO zE fun g hs hm hb1=>?_;replace hg:=Fr.sub_trans hg hs;replace hR:=melted hR hm
 try replace ha:=ha.mono hs
 clear hs hm;have con:=triedSP_c zB (first:=#[]) (cap:=#[.pointer (some ⟨b1,0,none⟩)]) rfl (fun _ _ h=>by obtain ⟨_,_,rfl,_⟩:=h;rfl) (sright1_c hb1 ha hl)
 by_cases e:SRight xs
 ·
  refine S.region rfl<|O.op (.p rfl) (.mkFunc rfl rfl)<|O.call0 (.p rfl) rfl zB rfl rfl ((con.mono (Ret.imp (K' :=fun v η=>∃ b,v=.tuple #[.pointer (some ⟨b,0,none⟩),.int .i64 0]∧η=[RowP g.h 148 158 5 b xs]) fun v η h=>by rcases h with ⟨_,⟨_,b,rfl,h3⟩,rfl⟩|⟨_,⟨h2,_⟩,_⟩;exact ⟨b,rfl,h3⟩;exact absurd e h2))) ?_;rintro _ _ ⟨b7,rfl,rfl⟩
  try simp only [zx1,zx2,zx3]
  refine O.q 5 rfl<|O.nil<|S.seq<|S.region rfl<|O.q 1 rfl<|O.op (.p rfl) (.eql rfl rfl)<|O.q 1 rfl<|O.nil ?_;exact S.rt results45 rfl hR ⟨by simp [e],rfl⟩
 ·
  refine S.region rfl<|O.op (.p rfl) (.mkFunc rfl rfl)<|O.call0 (.p rfl) rfl zB rfl rfl ((con.mono (Ret.imp (K' :=fun v η=>v=.tuple #[.pointer none,.int .i64 4]∧η=[]) fun v η h=>by rcases h with ⟨_,⟨h2,_⟩,_⟩|⟨_,⟨_,rfl⟩,rfl,rfl⟩;exact absurd h2 e;exact ⟨rfl,rfl⟩))) ?_;rintro _ _ ⟨rfl,rfl⟩
  try simp only [zx1,zx2,zx3]
  refine O.q 5 rfl<|O.nil<|S.seq<|S.region rfl<|O.q 1 rfl<|O.op (.p rfl) (.eql rfl rfl)<|O.q 1 rfl<|O.nil ?_;exact S.rt results45 rfl hR ⟨by simp [e],rfl⟩
theorem r7dot_c {r:Fr} {a b:Int} (d:DotT) (h:d=(a,b,())):Con prog 286 #[.agg #[.int .i64 a,.int .i64 b]] r [] (Ret fun v η=>v=.bool (dotOk d)∧η=[]):=by
 subst h;refine Con.of (n:=21) _ rfl func286 rfl rfl rfl fun g hg R hR=>?_;refine S.seq<|S.region rfl<|O.opE (.p rfl) (.box (cs:=[_,_]) rfl rfl) ?_;rintro _ _ ⟨b1,rfl,rfl⟩;refine O.q 1 rfl<|O.nil<|S.seq<|S.region rfl<|O.op (.p rfl) (.fieldObj fld166x0 rfl)<|O.op (.p rfl) (.lo flat3) ?_;refine O.op (.p rfl) (.geq rfl rfl)<|O.q 1 rfl ?_
 first|refine O.caseD 6 rfl (fun h6=>?_) (fun h6=>?_)|refine O.caseB 6 rfl (fun h6=>?_) (fun h6=>?_)
 ·refine O.op (.g rfl rfl) (.fieldObj fld166x0 rfl)<|O.op (.g rfl rfl) (.lo flat3) ?_
  refine O.op (.g rfl rfl) (.leq rfl rfl)<|O.q 2 rfl ?_
  first|refine O.caseD 11 rfl (fun h11=>?_) (fun h11=>?_)|refine O.caseB 11 rfl (fun h11=>?_) (fun h11=>?_)
  ·refine O.op (.g rfl rfl) (.fieldObj fld166x1 rfl)<|O.op (.g rfl rfl) (.lo flat3) ?_
   refine O.op (.g rfl rfl) (.geq rfl rfl)<|O.q 2 rfl ?_
   first|refine O.caseD 16 rfl (fun h16=>?_) (fun h16=>?_)|refine O.caseB 16 rfl (fun h16=>?_) (fun h16=>?_)
   ·refine O.op (.g rfl rfl) (.fieldObj fld166x1 rfl)<|O.op (.g rfl rfl) (.lo flat3) ?_
    refine O.op (.g rfl rfl) (.leq rfl rfl)<|O.q 2 rfl<|O.nil<|S.ret results286 rfl fun w hw=>Holds.end_ hR hw ?_
    first|exact ⟨_,⟨congrArg _ (decide_eq_false zU).symm,rfl⟩,by repeat (first|exact zpa|exact zpn|(apply zpc;focus (repeat (first|exact zh|apply zt)))|apply zps)⟩|exact ⟨_,⟨congrArg _ (decide_eq_decide.2 zU),rfl⟩,by repeat (first|exact zpa|exact zpn|(apply zpc;focus (repeat (first|exact zh|apply zt)))|apply zps)⟩
   ·refine O.q 5 rfl<|O.nil<|S.ret results286 rfl fun w hw=>Holds.end_ hR hw ?_
    first|exact ⟨_,⟨congrArg _ (decide_eq_false zU).symm,rfl⟩,by repeat (first|exact zpa|exact zpn|(apply zpc;focus (repeat (first|exact zh|apply zt)))|apply zps)⟩|exact ⟨_,⟨congrArg _ (decide_eq_decide.2 zU),rfl⟩,by repeat (first|exact zpa|exact zpn|(apply zpc;focus (repeat (first|exact zh|apply zt)))|apply zps)⟩
  ·refine O.q 10 rfl<|O.nil<|S.ret results286 rfl fun w hw=>Holds.end_ hR hw ?_
   first|exact ⟨_,⟨congrArg _ (decide_eq_false zU).symm,rfl⟩,by repeat (first|exact zpa|exact zpn|(apply zpc;focus (repeat (first|exact zh|apply zt)))|apply zps)⟩|exact ⟨_,⟨congrArg _ (decide_eq_decide.2 zU),rfl⟩,by repeat (first|exact zpa|exact zpn|(apply zpc;focus (repeat (first|exact zh|apply zt)))|apply zps)⟩
 ·refine O.q 15 rfl<|O.nil<|S.ret results286 rfl fun w hw=>Holds.end_ hR hw ?_
  first|exact ⟨_,⟨congrArg _ (decide_eq_false zU).symm,rfl⟩,by repeat (first|exact zpa|exact zpn|(apply zpc;focus (repeat (first|exact zh|apply zt)))|apply zps)⟩|exact ⟨_,⟨congrArg _ (decide_eq_decide.2 zU),rfl⟩,by repeat (first|exact zpa|exact zpn|(apply zpc;focus (repeat (first|exact zh|apply zt)))|apply zps)⟩
theorem r7right_c {r:Fr} {va:Value} {v:List DotT} (ha:Arr DotRp r va v):Con prog 287 #[va] r [] (Ret fun u η=>u=.bool (vecOk v)∧η=[]):=by
 refine Con.of (n:=34) _ rfl func287 rfl rfl rfl fun g hg R hR=>?_;have ha:=ha.mono hg;have hbd:=ha.bound;obtain ⟨a1,c1,rfl⟩:=ha.shape;refine S.seq<|S.region rfl<|O.q 1 rfl<|O.nil<|S.seq<|S.seq<|S.region rfl<|O.q 1 rfl<|O.nil<|S.block<|S.loopK (ι:=Nat) (fun k=>k≤v.length∧vecOk (v.take k)=true) (fun k=>[(3,.int .i64 (k:Int))]) [(0,_)] (fun k=>[]) (fun k=>v.length - k) (0) zV (.cons rfl (.nil)) (.cons rfl (.nil)) rfl fun k hx ih=>?_;have hm1:=meltRefl (g:=g);obtain ⟨hx1,hx2⟩:=hx;refine S.seq<|S.seq<|S.region rfl<|O.q 2 rfl<|O.op (.p rfl) (.len rfl underlying72 rfl)<|O.op (.p rfl) (.lss rfl rfl)<|O.nil ?_
 first|refine S.condD rfl (fun h7=>?_) (fun h7=>?_)|refine S.condB rfl (fun h7=>?_) (fun h7=>?_)
 ·have hk:k<v.length:=by omega
  have hst:=vecOk_step hk hx2
  by_cases hd:dotOk v[k]=true
  ·by_cases h0:k=0
   ·
    refine S.skip<|S.seq<|S.block<|S.seq<|S.regionD (L:=[0,1,2,3,4,5,6,7,8,9,10,11,12,13,14,15,16,17,18,19,20,21,22,23]) F.mixed zB<|OD.q 2 rfl<|OD.ia (.p rfl) underlying72 size166 rfl rfl rfl (by first|assumption|exact Arr.mono hg zC|exact Arr.left zC|exact Arr.left (Arr.mono hg zC)) (h:=fun p12 cs12 hp12 hr12=>?_);obtain ⟨rfl,hi12,hj12⟩:=DotRp.open hr12;refine .quiet (.p rfl) rfl (fun _=>.loadAgg isAgg166 zB rfl hp12) ?_;refine OD.call0 (.p rfl) zB rfl zB rfl rfl ((r7dot_c v[k] rfl)) ?_;rintro _ _ ⟨rfl,rfl⟩
    try simp only [zx1,zx2,zx3]
    refine OD.sT 14 rfl (by exact hd) ?_;refine .quiet (.p rfl) rfl (fun _=>.not rfl)<|OD.q 2 rfl<|.quiet (.g rfl rfl) rfl (fun _=>.gtr rfl rfl)<|OD.sF 18 rfl (by exact decide_eq_false zD) ?_;refine OD.q 15 rfl<|ODx.nil<|S.condF rfl<|S.skip<|S.inBlock<|S.region rfl<|O.q 1 rfl<|O.op (.p rfl) (.add rfl rfl (IntWalk.i64_in _ zD))<|O.q 1 rfl<|O.nil ?_;exact S.wk (ih (k+1) (by exact ⟨by omega,hst.2 ⟨hd,fun h=>absurd h zD⟩⟩) zD)
   ·have hk1:k - 1<v.length:=by omega
    by_cases hlt:v[k - 1].1<v[k].1
    ·
     refine S.skip<|S.seq<|S.block<|S.seq<|S.regionD (L:=[0,1,2,3,4,5,6,7,8,9,10,11,12,13,14,15,16,17,18,19,20,21,22,23]) F.mixed zB<|OD.q 2 rfl<|OD.ia (.p rfl) underlying72 size166 rfl rfl rfl (by first|assumption|exact Arr.mono hg zC|exact Arr.left zC|exact Arr.left (Arr.mono hg zC)) (h:=fun p12 cs12 hp12 hr12=>?_);obtain ⟨rfl,hi12,hj12⟩:=DotRp.open hr12;refine .quiet (.p rfl) rfl (fun _=>.loadAgg isAgg166 zB rfl hp12) ?_;refine OD.call0 (.p rfl) zB rfl zB rfl rfl ((r7dot_c v[k] rfl)) ?_;rintro _ _ ⟨rfl,rfl⟩
     try simp only [zx1,zx2,zx3]
     refine OD.sT 14 rfl (by exact hd) ?_;refine .quiet (.p rfl) rfl (fun _=>.not rfl)<|OD.q 2 rfl<|.quiet (.g rfl rfl) rfl (fun _=>.gtr rfl rfl)<|OD.sT 18 rfl (by exact decide_eq_true zD) ?_;refine OD.q 3 rfl<|.quiet (.g rfl rfl) rfl (fun _=>.sub rfl rfl (IntWalk.i64_in _ zD))<|OD.ia (.g rfl rfl) underlying72 size166 rfl rfl (show _=(((k - 1):Nat):Int) by omega) (by first|assumption|exact Arr.mono hg zC|exact Arr.left zC|exact Arr.left (Arr.mono hg zC)) (h:=fun p23 cs23 hp23 hr23=>?_);obtain ⟨rfl,hi23,hj23⟩:=DotRp.open hr23;refine .quiet (.g rfl rfl) rfl (fun _=>.fieldAddr fld166x0 rfl)<|.quiet (.g rfl rfl) rfl (fun _=>.loadAt flat3 rfl hp23 rfl) ?_;refine OD.q 2 rfl<|OD.ia (.g rfl rfl) underlying72 size166 rfl rfl rfl (by first|assumption|exact Arr.mono hg zC|exact Arr.left zC|exact Arr.left (Arr.mono hg zC)) (h:=fun p28 cs28 hp28 hr28=>?_);obtain ⟨rfl,hi28,hj28⟩:=DotRp.open hr28;refine .quiet (.g rfl rfl) rfl (fun _=>.fieldAddr fld166x0 rfl)<|.quiet (.g rfl rfl) rfl (fun _=>.loadAt flat3 rfl hp28 rfl) ?_;refine .quiet (.g rfl rfl) rfl (fun _=>.geq rfl rfl)<|OD.sF 31 rfl (by exact decide_eq_false zD) ?_;refine OD.q 2 rfl<|ODx.nil<|S.condF rfl<|S.skip<|S.inBlock<|S.region rfl<|O.q 1 rfl<|O.op (.p rfl) (.add rfl rfl (IntWalk.i64_in _ zD))<|O.q 1 rfl<|O.nil ?_;exact S.wk (ih (k+1) (by exact ⟨by omega,hst.2 ⟨hd,fun _=>hlt⟩⟩) zD)
    ·
     refine S.skip<|S.seq<|S.block<|S.seq<|S.regionD (L:=[0,1,2,3,4,5,6,7,8,9,10,11,12,13,14,15,16,17,18,19,20,21,22,23]) F.mixed zB<|OD.q 2 rfl<|OD.ia (.p rfl) underlying72 size166 rfl rfl rfl (by first|assumption|exact Arr.mono hg zC|exact Arr.left zC|exact Arr.left (Arr.mono hg zC)) (h:=fun p12 cs12 hp12 hr12=>?_);obtain ⟨rfl,hi12,hj12⟩:=DotRp.open hr12;refine .quiet (.p rfl) rfl (fun _=>.loadAgg isAgg166 zB rfl hp12) ?_;refine OD.call0 (.p rfl) zB rfl zB rfl rfl ((r7dot_c v[k] rfl)) ?_;rintro _ _ ⟨rfl,rfl⟩
     try simp only [zx1,zx2,zx3]
     refine OD.sT 14 rfl (by exact hd) ?_;refine .quiet (.p rfl) rfl (fun _=>.not rfl)<|OD.q 2 rfl<|.quiet (.g rfl rfl) rfl (fun _=>.gtr rfl rfl)<|OD.sT 18 rfl (by exact decide_eq_true zD) ?_;refine OD.q 3 rfl<|.quiet (.g rfl rfl) rfl (fun _=>.sub rfl rfl (IntWalk.i64_in _ zD))<|OD.ia (.g rfl rfl) underlying72 size166 rfl rfl (show _=(((k - 1):Nat):Int) by omega) (by first|assumption|exact Arr.mono hg zC|exact Arr.left zC|exact Arr.left (Arr.mono hg zC)) (h:=fun p23 cs23 hp23 hr23=>?_);obtain ⟨rfl,hi23,hj23⟩:=DotRp.open hr23;refine .quiet (.g rfl rfl) rfl (fun _=>.fieldAddr fld166x0 rfl)<|.quiet (.g rfl rfl) rfl (fun _=>.loadAt flat3 rfl hp23 rfl) ?_;refine OD.q 2 rfl<|OD.ia (.g rfl rfl) underlying72 size166 rfl rfl rfl (by first|assumption|exact Arr.mono hg zC|exact Arr.left zC|exact Arr.left (Arr.mono hg zC)) (h:=fun p28 cs28 hp28 hr28=>?_);obtain ⟨rfl,hi28,hj28⟩:=DotRp.open hr28;refine .quiet (.g rfl rfl) rfl (fun _=>.fieldAddr fld166x0 rfl)<|.quiet (.g rfl rfl) rfl (fun _=>.loadAt flat3 rfl hp28 rfl) ?_;refine .quiet (.g rfl rfl) rfl (fun _=>.geq rfl rfl)<|OD.sT 31 rfl (by exact decide_eq_true zD) ?_;refine OD.q 2 rfl<|ODx.nil<|S.condT rfl<|S.seq<|S.region rfl<|O.q 1 rfl<|O.nil ?_;exact S.rt results287 rfl hR ⟨congrArg _ (vecOk_none (i:=k+1) (Bool.eq_false_iff.2 fun e=>hlt ((hst.1 e).2 zD))).symm,rfl⟩
  ·have hd' :dotOk v[k]=false:=by simpa using hd
   refine S.skip<|S.seq<|S.block<|S.seq<|S.regionD (L:=[0,1,2,3,4,5,6,7,8,9,10,11,12,13,14,15,16,17,18,19,20,21,22,23]) F.mixed zB<|OD.q 2 rfl<|OD.ia (.p rfl) underlying72 size166 rfl rfl rfl (by first|assumption|exact Arr.mono hg zC|exact Arr.left zC|exact Arr.left (Arr.mono hg zC)) (h:=fun p12 cs12 hp12 hr12=>?_);obtain ⟨rfl,hi12,hj12⟩:=DotRp.open hr12;refine .quiet (.p rfl) rfl (fun _=>.loadAgg isAgg166 zB rfl hp12) ?_;refine OD.call0 (.p rfl) zB rfl zB rfl rfl ((r7dot_c v[k] rfl)) ?_;rintro _ _ ⟨rfl,rfl⟩
   try simp only [zx1,zx2,zx3]
   refine OD.sF 14 rfl (by exact hd') ?_;refine .quiet (.p rfl) rfl (fun _=>.not rfl)<|OD.q 18 rfl<|ODx.nil<|S.condT rfl<|S.seq<|S.region rfl<|O.q 1 rfl<|O.nil ?_;exact S.rt results287 rfl hR ⟨congrArg _ (vecOk_none (i:=k+1) (Bool.eq_false_iff.2 fun e=>hd (hst.1 e).1)).symm,rfl⟩
 ·clear ih
  have hk:k=v.length:=by omega
  subst hk;rw [List.take_length] at hx2;refine S.exit rfl<|S.seq<|S.region rfl<|O.q 1 rfl<|O.nil ?_;exact S.rt results287 rfl hR ⟨by rw [hx2],rfl⟩
theorem r7up_c {r:Fr} {va:Value} {v:List DotT} (c:Int) (ha:Arr DotRp r va v) (ho:vecOk v=true) :
  Con prog 288 #[va,.int .i64 c] r [] (Ret fun u η=>∃ z,u=.int .i64 z∧(∀ s,1≤s→decide (s≤z)=hasM v (c,s,()))∧η=[]):=by
 have hri:=(vecOk_iff.1 ho).2;refine Con.of (n:=24) _ rfl func288 rfl rfl rfl fun g hg R hR=>?_;have ha:=ha.mono hg;have hbd:=ha.bound;obtain ⟨a1,c1,rfl⟩:=ha.shape;refine S.seq<|S.region rfl<|O.q 1 rfl<|O.nil<|S.seq<|S.seq<|S.region rfl<|O.q 1 rfl<|O.nil<|S.block<|S.loopK (ι:=Nat) (fun k=>k≤v.length∧∀ x∈v.take k,¬ x.1=c) (fun k=>[(5,.int .i64 (k:Int))]) [(0,_),(1,_)] (fun k=>[]) (fun k=>v.length - k) (0) (by exact ⟨by simp,by simp⟩) (.cons rfl (.nil)) (.cons rfl (.cons rfl (.nil))) rfl fun k hx ih=>?_;have hm1:=meltRefl (g:=g);obtain ⟨hx1,hx2⟩:=hx;refine S.seq<|S.seq<|S.region rfl<|O.q 2 rfl<|O.op (.p rfl) (.len rfl underlying72 rfl)<|O.op (.p rfl) (.lss rfl rfl)<|O.nil ?_
 first|refine S.condD rfl (fun h9=>?_) (fun h9=>?_)|refine S.condB rfl (fun h9=>?_) (fun h9=>?_)
 ·have hk:k<v.length:=by omega
  by_cases e:v[k].1=c
  ·
   refine S.skip<|S.seq<|S.block<|S.seq<|S.region rfl<|O.q 2 rfl<|O.ia (.p rfl) underlying72 size166 rfl rfl rfl (by first|assumption|exact Arr.mono hg zC|exact Arr.left zC|exact Arr.left (Arr.mono hg zC)) (h:=fun p14 cs14 hp14 hr14=>?_);obtain ⟨rfl,hi14,hj14⟩:=DotRp.open hr14;refine O.op (.p rfl) (.fieldAddr fld166x0 rfl)<|O.op (.p rfl) (.loadAt flat3 rfl hp14 rfl) ?_;refine O.q 1 rfl<|O.op (.p rfl) (.eql rfl rfl)<|O.sT 18 rfl (by exact decide_eq_true e) ?_;refine O.nil<|S.condT rfl<|S.seq<|S.region rfl<|O.q 2 rfl<|O.ia (.p rfl) underlying72 size166 rfl rfl rfl (by first|assumption|exact Arr.mono hg zC|exact Arr.left zC|exact Arr.left (Arr.mono hg zC)) (h:=fun p21 cs21 hp21 hr21=>?_);obtain ⟨rfl,hi21,hj21⟩:=DotRp.open hr21;refine O.op (.p rfl) (.fieldAddr fld166x1 rfl)<|O.op (.p rfl) (.loadAt flat3 rfl (hp21.drop 1) rfl) ?_;refine O.q 1 rfl<|O.nil ?_;exact S.rt results288 rfl hR ⟨_,rfl,fun s _=>(hasM_at (d:=(c,s,())) hri hk e).symm,rfl⟩
  ·
   refine S.skip<|S.seq<|S.block<|S.seq<|S.region rfl<|O.q 2 rfl<|O.ia (.p rfl) underlying72 size166 rfl rfl rfl (by first|assumption|exact Arr.mono hg zC|exact Arr.left zC|exact Arr.left (Arr.mono hg zC)) (h:=fun p14 cs14 hp14 hr14=>?_);obtain ⟨rfl,hi14,hj14⟩:=DotRp.open hr14;refine O.op (.p rfl) (.fieldAddr fld166x0 rfl)<|O.op (.p rfl) (.loadAt flat3 rfl hp14 rfl) ?_;refine O.q 1 rfl<|O.op (.p rfl) (.eql rfl rfl)<|O.sF 18 rfl (by exact decide_eq_false e) ?_;refine O.nil<|S.condF rfl<|S.skip<|S.inBlock<|S.region rfl<|O.q 1 rfl<|O.op (.p rfl) (.add rfl rfl (IntWalk.i64_in _ zD))<|O.q 1 rfl<|O.nil ?_;exact S.wk (ih (k+1) (by exact ⟨by omega,mem_take_succ hk hx2 e⟩) zD)
 ·clear ih
  have hk:k=v.length:=by omega
  subst hk;rw [List.take_length] at hx2;refine S.exit rfl<|S.seq<|S.region rfl<|O.q 1 rfl<|O.nil ?_;exact S.rt results288 rfl hR ⟨0,rfl,fun s hs=>by rw [decide_eq_false zD];exact (List.any_eq_false.2 fun x hx=>by simp [hx2 x hx]).symm,rfl⟩
theorem r7has_c {r:Fr} {va:Value} {v:List DotT} {a b:Int} (d:DotT) (h:d=(a,b,())) (ha:Arr DotRp r va v) :
  Con prog 216 #[va,.agg #[.int .i64 a,.int .i64 b]] r [] (Ret fun u η=>u=.bool (hasR v d)∧η=[]):=by
 subst h;refine Con.of (n:=20) _ rfl func216 rfl rfl rfl fun g hg R hR=>?_;have ha:=ha.mono hg;obtain ⟨a1,c1,rfl⟩:=ha.shape;refine S.seq<|S.region rfl<|O.opE (.p rfl) (.box (cs:=[_,_]) rfl rfl) ?_;rintro _ _ ⟨b3,rfl,rfl⟩;refine O.q 1 rfl<|O.nil<|S.seq<|S.frzO zE fun g hs hm hb3=>?_;replace hg:=Fr.sub_trans hg hs;replace hR:=melted hR hm
 try replace ha:=ha.mono hs
 clear hs hm
 cases e1:vecOk v with
 |false =>
  refine S.regionD (L:=[0,1,2,3,4,5,6,7,8,9,11,12,10,13,14,15]) F.mixed zB ?_;refine OD.q 1 rfl<|OD.call0 (.p rfl) zB rfl zB rfl rfl ((r7right_c ha)) ?_;rintro _ _ ⟨rfl,rfl⟩
  try simp only [zx1,zx2,zx3]
  refine OD.sF 6 rfl (by exact e1) ?_;refine OD.q 14 rfl<|ODx.nil ?_;exact S.rt results216 rfl hR ⟨by simp [hasR,e1],rfl⟩
 |true =>
  cases e2:dotOk (a,b,()) with
  |false =>
   refine S.regionD (L:=[0,1,2,3,4,5,6,7,8,9,11,12,10,13,14,15]) F.mixed zB ?_;refine OD.q 1 rfl<|OD.call0 (.p rfl) zB rfl zB rfl rfl ((r7right_c ha)) ?_;rintro _ _ ⟨rfl,rfl⟩
   try simp only [zx1,zx2,zx3]
   refine OD.sT 6 rfl (by exact e1) ?_;refine OD.q 1 rfl<|.quiet (.g rfl rfl) rfl (fun _=>.loadAgg isAgg166 zB rfl hb3) ?_;refine OD.call0 (.g rfl rfl) zB rfl zB rfl rfl ((r7dot_c _ rfl)) ?_;rintro _ _ ⟨rfl,rfl⟩
   try simp only [zx1,zx2,zx3]
   refine OD.sF 9 rfl (by exact e2) ?_;refine OD.q 11 rfl<|ODx.nil ?_;exact S.rt results216 rfl hR ⟨by simp [hasR,e1,e2],rfl⟩
  |true =>
   have hb:=(dotOk_iff.1 e2).2.2.1;refine S.regionD (L:=[0,1,2,3,4,5,6,7,8,9,11,12,10,13,14,15]) F.mixed zB ?_;refine OD.q 1 rfl<|OD.call0 (.p rfl) zB rfl zB rfl rfl ((r7right_c ha)) ?_;rintro _ _ ⟨rfl,rfl⟩
   try simp only [zx1,zx2,zx3]
   refine OD.sT 6 rfl (by exact e1) ?_;refine OD.q 1 rfl<|.quiet (.g rfl rfl) rfl (fun _=>.loadAgg isAgg166 zB rfl hb3) ?_;refine OD.call0 (.g rfl rfl) zB rfl zB rfl rfl ((r7dot_c _ rfl)) ?_;rintro _ _ ⟨rfl,rfl⟩
   try simp only [zx1,zx2,zx3]
   refine OD.sT 9 rfl (by exact e2) ?_;refine OD.q 3 rfl<|.quiet (.g rfl rfl) rfl (fun _=>.fieldAddr fld166x0 rfl)<|.quiet (.g rfl rfl) rfl (fun _=>.loadAt flat3 rfl hb3 rfl) ?_;refine .quiet (.g rfl rfl) rfl (fun _=>.fieldAddr fld166x1 rfl)<|.quiet (.g rfl rfl) rfl (fun _=>.loadAt flat3 rfl (hb3.drop 1) rfl) ?_;refine OD.call0 (.g rfl rfl) zB rfl zB rfl rfl ((r7up_c _ ha e1)) ?_;rintro v15 _ ⟨z,rfl,hz,rfl⟩
   try simp only [zx1,zx2,zx3]
   refine .quiet (.g rfl rfl) rfl (fun _=>.geq rfl rfl)<|OD.q 2 rfl<|ODx.nil ?_;exact S.rt results216 rfl hR ⟨congrArg _ (by rw [hasR,e1,e2,← hz b hb];rfl),rfl⟩
theorem be_take (n:Int) (j:Nat) (h:j<8):(be n).take j++[beAt n (7 - j)]=(be n).take (j+1):=by
 match j,h with
 |0,_|1,_|2,_|3,_|4,_|5,_|6,_|7,_=>rfl
theorem be_take_len (n:Int) (j:Nat) (h:j≤8):((be n).take j).length=j:=by rw [List.length_take,be_length];omega
theorem refNumber_c {r:Fr} (n:Int):Con prog 63 #[.int .i64 n] r [] (Ret fun v η=>∃ a c,v=.slice a 8 c∧η=[OwnP Rp.u8 5 v (be n)]):=by
 refine Con.of (n:=20) _ rfl func63 rfl rfl rfl fun g hg R hR=>?_;refine S.addNil (T:=Rp.u8) (e:=5) ?_;refine S.seq<|S.region rfl<|O.q 1 rfl<|O.nil<|S.seq<|S.region rfl<|O.q 1 rfl<|O.nil<|S.seq<|S.seq<|S.region rfl<|O.q 1 rfl<|O.nil<|S.block<|S.loopK3 (ι:=Nat) (κ:=Option Addr) (υ:=Nat) (fun j a c=>j≤8) (fun j a c=>[(4,.int .i64 ((7:Int) - (j:Int))),(3,.slice a j c)]) [(0,_)] (fun j a c=>[OwnP Rp.u8 5 (.slice a j c) ((be n).take j)]) (fun j a c=>8 - j) (0) (none) (0) zG (.cons rfl (.cons rfl (.nil))) (.cons rfl (.nil)) rfl fun j a c hx ih=>?_;have hm1:=meltRefl (g:=g);refine S.seq<|S.seq<|S.region rfl<|O.q 1 rfl<|O.op (.p rfl) (.geq rfl rfl)<|O.nil ?_
 first|refine S.condD rfl (fun h6=>?_) (fun h6=>?_)|refine S.condB rfl (fun h6=>?_) (fun h6=>?_)
 ·have hj:j<8:=by omega
  have hl:=be_take_len n j zD;have hw:IntKind.u64.wrap (8*(7 - (j:Int)))=8*(7 - (j:Int)):=by rw [wrap_u64_eq];unfold u64;omega
  refine S.skip<|S.seq<|S.block<|S.region rfl<|O.q 2 rfl<|O.op (.p rfl) (.cvt underlying3 underlying195 rfl)<|O.q 1 rfl<|O.op (.p rfl) (.mul rfl rfl (IntWalk.i64_in _ zD))<|O.op (.p rfl) (.cvt underlying3 underlying57 rfl)<|O.op (.p rfl) (.shr rfl rfl zD)<|O.op (.p rfl) (.cvt underlying195 underlying5 rfl)<|O.opE (.p rfl) (.litP (T:=Rp.u8) (ys:=[beAt n (7 - j)]) underlying31 elem5 zF rfl rfl ⟨congrArg (fun v=>[v]) (by simp only [byteV];rw [shift_byte n (7 - j) zD _ (by rw [wrap_u64_eq];unfold u64;omega)]),trivial⟩ zF) ?_;rintro _ _ ⟨a17,c17,rfl,rfl⟩;refine O.frzA zE fun g hs hm ha17=>?_;replace hg:=Fr.sub_trans hg hs;replace hR:=melted hR hm;replace hm1:=meltTrans hm1 hm;clear hs hm;refine O.opE (.p rfl) (.appendP (T:=Rp.u8) pure_u8 underlying31 elem5 zF rfl rfl zE (by first|assumption|exact Arr.mono hg zC|exact Arr.left zC|exact Arr.left (Arr.mono hg zC)) zJ zJ) ?_;rintro _ _ ⟨a18,c18,rfl,rfl⟩;refine O.q 1 rfl<|O.nil<|S.inBlock<|S.region rfl<|O.q 1 rfl<|O.op (.p rfl) (.sub rfl rfl (IntWalk.i64_in _ zD))<|O.q 1 rfl<|O.nil ?_;rw [be_take n j hj,hl];refine S.slot 4 (v' :=.int .i64 ((7:Int) - ((j+1:Nat):Int))) rfl (congrArg _ zD) ?_;exact S.melt hm1 (S.wk (ih (j+1) (a18) (c18) zD zD))
 ·have hj:j=8:=by omega
  subst hj;refine S.exit rfl<|S.seq<|S.region rfl<|O.q 2 rfl<|O.nil<|S.ret results63 rfl fun w hw=>hR _ _ w ?_ hw;exact ⟨a,c,rfl,rfl⟩
theorem refBytes_c {r:Fr} {va:Value} {xs:List UInt8} (ha:Arr Rp.u8 r va xs) (hl:xs.length≤100000000000000) :
  Con prog 65 #[va] r [] (Ret fun v η=>∃ a c,v=.slice a (bytesOf xs).length c∧η=[OwnP Rp.u8 5 v (bytesOf xs)]):=by
 refine Con.of (n:=8) _ rfl func65 rfl rfl rfl fun g hg R hR=>?_;have ha:=ha.mono hg;obtain ⟨a1,c1,rfl⟩:=ha.shape;refine S.seq<|S.region rfl<|O.q 1 rfl<|O.nil<|S.seq<|S.region rfl<|O.q 1 rfl<|O.op (.p rfl) (.len rfl underlying31 rfl)<|O.call0 (.p rfl) rfl zB rfl rfl (refNumber_c _) ?_;rintro _ _ ⟨a5,c5,rfl,rfl⟩
 try simp only [zx1,zx2,zx3]
 refine O.q 1 rfl<|O.opE (.p rfl) (.appendP (T:=Rp.u8) pure_u8 underlying31 elem5 zF rfl rfl zE (by first|assumption|exact Arr.mono hg zC|exact Arr.left zC|exact Arr.left (Arr.mono hg zC)) zJ zJ) ?_;rintro _ _ ⟨a7,c7,rfl,rfl⟩;refine O.q 1 rfl<|O.nil<|S.ret results65 rfl fun w hw=>hR _ _ w ?_ hw;exact ⟨a7,c7,by simp [bytesOf],by simp [bytesOf]⟩
theorem refJoin_c {r:Fr} {va:Value} {xss:List (List UInt8)} (ha:Arr (Rp.slice Rp.u8) r va xss) (hl:xss.flatten.length≤140737488355328) :
  Con prog 64 #[va] r [] (Ret fun v η=>∃ a c,v=.slice a xss.flatten.length c∧η=[OwnP Rp.u8 5 v xss.flatten]):=by
 refine Con.of (n:=18) _ rfl func64 rfl rfl rfl fun g hg R hR=>?_;have ha:=ha.mono hg;have hbd:=ha.bound;obtain ⟨a1,c1,rfl⟩:=ha.shape;refine S.addNil (T:=Rp.u8) (e:=5) ?_;refine S.seq<|S.region rfl<|O.q 1 rfl<|O.nil<|S.seq<|S.region rfl<|O.q 1 rfl<|O.nil<|S.seq<|S.seq<|S.region rfl<|O.q 1 rfl<|O.nil<|S.block<|S.loopK4 (ι:=Nat) (κ:=Option Addr) (υ:=Nat) (τ:=Nat) (fun i a6 m6 c6=>i≤xss.length∧m6=(xss.take i).flatten.length) (fun i a6 m6 c6=>[(4,.int .i64 (i:Int)),(3,.slice a6 m6 c6)]) [(0,_)] (fun i a6 m6 c6=>[OwnP Rp.u8 5 (.slice a6 m6 c6) (xss.take i).flatten]) (fun i a6 m6 c6=>xss.length - i) (0) (none) (0) (0) zG (.cons rfl (.cons rfl (.nil))) (.cons rfl (.nil)) rfl fun i a6 m6 c6 hx ih=>?_;have hm1:=meltRefl (g:=g);obtain ⟨hx1,hs⟩:=hx;refine S.seq<|S.seq<|S.region rfl<|O.q 2 rfl<|O.op (.p rfl) (.len rfl underlying39 rfl)<|O.op (.p rfl) (.lss rfl rfl)<|O.nil ?_
 first|refine S.condD rfl (fun h8=>?_) (fun h8=>?_)|refine S.condB rfl (fun h8=>?_) (fun h8=>?_)
 ·have hi:i<xss.length:=by omega
  have h1:=flat_len xss i hi;have h2:=flat_le xss (i+1);have h3:(xss.take (i+1)).flatten.length=(xss.take i).flatten.length+xss[i].length:=by rw [h1,List.length_append]
  refine S.skip<|S.seq<|S.block<|S.region rfl<|O.q 3 rfl<|O.ia (.p rfl) underlying39 size31 rfl rfl rfl (by first|assumption|exact Arr.mono hg zC|exact Arr.left zC|exact Arr.left (Arr.mono hg zC)) (h:=fun p14 cs14 hp14 hr14=>?_);obtain ⟨v14,rfl,ha14⟩:=hr14;obtain ⟨a14,c14,rfl⟩:=ha14.shape;refine O.op (.p rfl) (.loadAt flat31 rfl hp14 rfl) ?_;refine O.opE (.p rfl) (.appendP (T:=Rp.u8) pure_u8 underlying31 elem5 zF rfl rfl zE (by first|assumption|exact Arr.mono hg zC|exact Arr.left zC|exact Arr.left (Arr.mono hg zC)) zJ zJ) ?_;rintro _ _ ⟨a16,c16,rfl,rfl⟩;refine O.q 1 rfl<|O.nil<|S.inBlock<|S.region rfl<|O.q 1 rfl<|O.op (.p rfl) (.add rfl rfl (IntWalk.i64_in _ zD))<|O.q 1 rfl<|O.nil ?_;rw [← h1];exact S.wk (ih (i+1) (a16) ((xss.take i).flatten.length+xss[i].length) (c16) zD zD)
 ·have hi:i=xss.length:=by omega
  subst hi;rw [List.take_length] at hs;subst hs;refine S.exit rfl<|S.seq<|S.region rfl<|O.q 2 rfl<|O.nil<|S.ret results64 rfl fun w hw=>hR _ _ w ?_ hw;exact ⟨a6,c6,rfl,by rw [List.take_length]⟩
theorem r8shape_c {r:Fr} {cs:List Value} {x:RecT} (h:RecRp.rel r cs x):Con prog 215 #[.agg cs.toArray] r [] (Ret fun v η=>v=.bool (shaped x)∧η=[]):=by
 obtain ⟨xa3,xa5,xa6,xc3,xc5,xc6,rfl,k0,k1,k2,k3,k5,k6⟩:=RecRp.sh h;have hz0:=str_size x.1;refine Con.of (n:=51) _ rfl func215 rfl rfl rfl fun g hg R hR=>?_;have h:=h.mono hg;have k3:=k3.mono hg;have k5:=k5.mono hg;have k6:=k6.mono hg;refine S.seq<|S.region rfl<|O.opE (.p rfl) (.box (cs:=[_,_,_,_,_,_,_]) rfl rfl) ?_;rintro _ _ ⟨b1,rfl,rfl⟩;refine O.q 1 rfl<|O.nil<|S.seq<|S.frzO zE fun g hs hm hb1=>?_;replace hg:=Fr.sub_trans hg hs;replace hR:=melted hR hm
 try replace h:=h.mono hs
 try replace k3:=k3.mono hs
 try replace k5:=k5.mono hs
 try replace k6:=k6.mono hs
 clear hs hm
 by_cases n0:¬ (1≤x.1.length)
 ·
  refine S.region rfl<|O.op (.p rfl) (.fieldAddr fld74x1 rfl)<|O.op (.p rfl) (.loadAt flat3 rfl (hb1.drop 1) rfl) ?_;refine O.op (.p rfl) (.fieldAddr fld74x2 rfl)<|O.op (.p rfl) (.loadAt flat3 rfl (hb1.drop 2) rfl) ?_;refine O.op (.p rfl) (.build (cs:=[_,_]) underlying166 rfl rfl rfl rfl rfl)<|O.opE (.p rfl) (.alloc (cs:=[.int .i64 0,.int .i64 0]) zeroValue166 rfl) ?_;rintro _ _ ⟨b3,rfl,rfl⟩;refine O.opU rfl (.storeObj zB rfl rfl rfl rfl zE zI) ?_;refine O.nil<|S.seq<|S.seq<|S.frzO zE fun g hs hm hb3=>?_;replace hg:=Fr.sub_trans hg hs;replace hR:=melted hR hm
  try replace h:=h.mono hs
  try replace k3:=k3.mono hs
  try replace k5:=k5.mono hs
  try replace k6:=k6.mono hs
  try replace hb1:=hb1.mono hs
  clear hs hm;refine S.region rfl<|O.op (.p rfl) (.fieldAddr fld74x0 rfl)<|O.op (.p rfl) (.loadAt flat9 rfl hb1 rfl) ?_;refine O.op (.p rfl) (.lenS rfl underlying9 rfl)<|O.op (.p rfl) (.lss rfl rfl)<|O.sT 12 rfl (by exact decide_eq_true (by rw [hz0];omega)) ?_;refine O.q 23 rfl<|O.nil<|S.condT rfl<|S.seq<|S.region rfl<|O.q 1 rfl<|O.nil ?_;exact S.rt results215 rfl hR ⟨congrArg _ (Bool.eq_false_iff.2 fun q=>n0 (shaped_iff.1 q).1).symm,rfl⟩
 have c0:=Classical.not_not.1 n0
 by_cases n1:¬ (x.1.length≤64)
 ·
  refine S.region rfl<|O.op (.p rfl) (.fieldAddr fld74x1 rfl)<|O.op (.p rfl) (.loadAt flat3 rfl (hb1.drop 1) rfl) ?_;refine O.op (.p rfl) (.fieldAddr fld74x2 rfl)<|O.op (.p rfl) (.loadAt flat3 rfl (hb1.drop 2) rfl) ?_;refine O.op (.p rfl) (.build (cs:=[_,_]) underlying166 rfl rfl rfl rfl rfl)<|O.opE (.p rfl) (.alloc (cs:=[.int .i64 0,.int .i64 0]) zeroValue166 rfl) ?_;rintro _ _ ⟨b3,rfl,rfl⟩;refine O.opU rfl (.storeObj zB rfl rfl rfl rfl zE zI) ?_;refine O.nil<|S.seq<|S.seq<|S.frzO zE fun g hs hm hb3=>?_;replace hg:=Fr.sub_trans hg hs;replace hR:=melted hR hm
  try replace h:=h.mono hs
  try replace k3:=k3.mono hs
  try replace k5:=k5.mono hs
  try replace k6:=k6.mono hs
  try replace hb1:=hb1.mono hs
  clear hs hm;refine S.region rfl<|O.op (.p rfl) (.fieldAddr fld74x0 rfl)<|O.op (.p rfl) (.loadAt flat9 rfl hb1 rfl) ?_;refine O.op (.p rfl) (.lenS rfl underlying9 rfl)<|O.op (.p rfl) (.lss rfl rfl)<|O.sF 12 rfl (by exact decide_eq_false (by rw [hz0];omega)) ?_;refine O.q 1 rfl<|O.op (.g rfl rfl) (.fieldAddr fld74x0 rfl)<|O.op (.g rfl rfl) (.loadAt flat9 rfl hb1 rfl) ?_;refine O.op (.g rfl rfl) (.lenS rfl underlying9 rfl)<|O.op (.g rfl rfl) (.gtr rfl rfl)<|O.sT 17 rfl (by exact decide_eq_true (by rw [hz0];omega)) ?_;refine O.q 18 rfl<|O.nil<|S.condT rfl<|S.seq<|S.region rfl<|O.q 1 rfl<|O.nil ?_;exact S.rt results215 rfl hR ⟨congrArg _ (Bool.eq_false_iff.2 fun q=>n1 (shaped_iff.1 q).2.1).symm,rfl⟩
 have c1:=Classical.not_not.1 n1
 by_cases n2:¬ (dotOk (rDot x)=true)
 ·
  refine S.region rfl<|O.op (.p rfl) (.fieldAddr fld74x1 rfl)<|O.op (.p rfl) (.loadAt flat3 rfl (hb1.drop 1) rfl) ?_;refine O.op (.p rfl) (.fieldAddr fld74x2 rfl)<|O.op (.p rfl) (.loadAt flat3 rfl (hb1.drop 2) rfl) ?_;refine O.op (.p rfl) (.build (cs:=[_,_]) underlying166 rfl rfl rfl rfl rfl)<|O.opE (.p rfl) (.alloc (cs:=[.int .i64 0,.int .i64 0]) zeroValue166 rfl) ?_;rintro _ _ ⟨b3,rfl,rfl⟩;refine O.opU rfl (.storeObj zB rfl rfl rfl rfl zE zI) ?_;refine O.nil<|S.seq<|S.seq<|S.frzO zE fun g hs hm hb3=>?_;replace hg:=Fr.sub_trans hg hs;replace hR:=melted hR hm
  try replace h:=h.mono hs
  try replace k3:=k3.mono hs
  try replace k5:=k5.mono hs
  try replace k6:=k6.mono hs
  try replace hb1:=hb1.mono hs
  clear hs hm;refine S.region rfl<|O.op (.p rfl) (.fieldAddr fld74x0 rfl)<|O.op (.p rfl) (.loadAt flat9 rfl hb1 rfl) ?_;refine O.op (.p rfl) (.lenS rfl underlying9 rfl)<|O.op (.p rfl) (.lss rfl rfl)<|O.sF 12 rfl (by exact decide_eq_false (by rw [hz0];omega)) ?_;refine O.q 1 rfl<|O.op (.g rfl rfl) (.fieldAddr fld74x0 rfl)<|O.op (.g rfl rfl) (.loadAt flat9 rfl hb1 rfl) ?_;refine O.op (.g rfl rfl) (.lenS rfl underlying9 rfl)<|O.op (.g rfl rfl) (.gtr rfl rfl)<|O.sF 17 rfl (by exact decide_eq_false (by rw [hz0];omega)) ?_;refine O.q 2 rfl<|O.op (.g rfl rfl) (.loadAgg isAgg166 zB rfl hb3) ?_;refine O.call0 (.g rfl rfl) rfl zB rfl rfl ((r7dot_c (rDot x) rfl)) ?_;rintro _ _ ⟨rfl,rfl⟩
  try simp only [zx1,zx2,zx3]
  refine O.sF 21 rfl (by exact (by simpa using n2)) ?_;refine O.op (.g rfl rfl) (.not rfl)<|O.q 13 rfl<|O.nil<|S.condT rfl<|S.seq<|S.region rfl<|O.q 1 rfl<|O.nil ?_;exact S.rt results215 rfl hR ⟨congrArg _ (Bool.eq_false_iff.2 fun q=>n2 (shaped_iff.1 q).2.2.1).symm,rfl⟩
 have c2:=Classical.not_not.1 n2
 by_cases n3:¬ (vecOk x.2.2.2.1=true)
 ·
  refine S.region rfl<|O.op (.p rfl) (.fieldAddr fld74x1 rfl)<|O.op (.p rfl) (.loadAt flat3 rfl (hb1.drop 1) rfl) ?_;refine O.op (.p rfl) (.fieldAddr fld74x2 rfl)<|O.op (.p rfl) (.loadAt flat3 rfl (hb1.drop 2) rfl) ?_;refine O.op (.p rfl) (.build (cs:=[_,_]) underlying166 rfl rfl rfl rfl rfl)<|O.opE (.p rfl) (.alloc (cs:=[.int .i64 0,.int .i64 0]) zeroValue166 rfl) ?_;rintro _ _ ⟨b3,rfl,rfl⟩;refine O.opU rfl (.storeObj zB rfl rfl rfl rfl zE zI) ?_;refine O.nil<|S.seq<|S.seq<|S.frzO zE fun g hs hm hb3=>?_;replace hg:=Fr.sub_trans hg hs;replace hR:=melted hR hm
  try replace h:=h.mono hs
  try replace k3:=k3.mono hs
  try replace k5:=k5.mono hs
  try replace k6:=k6.mono hs
  try replace hb1:=hb1.mono hs
  clear hs hm;refine S.region rfl<|O.op (.p rfl) (.fieldAddr fld74x0 rfl)<|O.op (.p rfl) (.loadAt flat9 rfl hb1 rfl) ?_;refine O.op (.p rfl) (.lenS rfl underlying9 rfl)<|O.op (.p rfl) (.lss rfl rfl)<|O.sF 12 rfl (by exact decide_eq_false (by rw [hz0];omega)) ?_;refine O.q 1 rfl<|O.op (.g rfl rfl) (.fieldAddr fld74x0 rfl)<|O.op (.g rfl rfl) (.loadAt flat9 rfl hb1 rfl) ?_;refine O.op (.g rfl rfl) (.lenS rfl underlying9 rfl)<|O.op (.g rfl rfl) (.gtr rfl rfl)<|O.sF 17 rfl (by exact decide_eq_false (by rw [hz0];omega)) ?_;refine O.q 2 rfl<|O.op (.g rfl rfl) (.loadAgg isAgg166 zB rfl hb3) ?_;refine O.call0 (.g rfl rfl) rfl zB rfl rfl ((r7dot_c (rDot x) rfl)) ?_;rintro _ _ ⟨rfl,rfl⟩
  try simp only [zx1,zx2,zx3]
  refine O.sT 21 rfl (by exact c2) ?_;refine O.op (.g rfl rfl) (.not rfl)<|O.q 2 rfl<|O.op (.g rfl rfl) (.fieldAddr fld74x3 rfl)<|O.op (.g rfl rfl) (.loadAt flat72 rfl (hb1.drop 3) rfl) ?_;refine O.call0 (.g rfl rfl) rfl zB rfl rfl ((r7right_c k3)) ?_;rintro _ _ ⟨rfl,rfl⟩
  try simp only [zx1,zx2,zx3]
  refine O.sF 27 rfl (by exact (by simpa using n3)) ?_;refine O.op (.g rfl rfl) (.not rfl)<|O.q 7 rfl<|O.nil<|S.condT rfl<|S.seq<|S.region rfl<|O.q 1 rfl<|O.nil ?_;exact S.rt results215 rfl hR ⟨congrArg _ (Bool.eq_false_iff.2 fun q=>n3 (shaped_iff.1 q).2.2.2.1).symm,rfl⟩
 have c3:=Classical.not_not.1 n3
 by_cases n4:¬ (hasR x.2.2.2.1 (rDot x)=false)
 ·
  refine S.region rfl<|O.op (.p rfl) (.fieldAddr fld74x1 rfl)<|O.op (.p rfl) (.loadAt flat3 rfl (hb1.drop 1) rfl) ?_;refine O.op (.p rfl) (.fieldAddr fld74x2 rfl)<|O.op (.p rfl) (.loadAt flat3 rfl (hb1.drop 2) rfl) ?_;refine O.op (.p rfl) (.build (cs:=[_,_]) underlying166 rfl rfl rfl rfl rfl)<|O.opE (.p rfl) (.alloc (cs:=[.int .i64 0,.int .i64 0]) zeroValue166 rfl) ?_;rintro _ _ ⟨b3,rfl,rfl⟩;refine O.opU rfl (.storeObj zB rfl rfl rfl rfl zE zI) ?_;refine O.nil<|S.seq<|S.seq<|S.frzO zE fun g hs hm hb3=>?_;replace hg:=Fr.sub_trans hg hs;replace hR:=melted hR hm
  try replace h:=h.mono hs
  try replace k3:=k3.mono hs
  try replace k5:=k5.mono hs
  try replace k6:=k6.mono hs
  try replace hb1:=hb1.mono hs
  clear hs hm;refine S.region rfl<|O.op (.p rfl) (.fieldAddr fld74x0 rfl)<|O.op (.p rfl) (.loadAt flat9 rfl hb1 rfl) ?_;refine O.op (.p rfl) (.lenS rfl underlying9 rfl)<|O.op (.p rfl) (.lss rfl rfl)<|O.sF 12 rfl (by exact decide_eq_false (by rw [hz0];omega)) ?_;refine O.q 1 rfl<|O.op (.g rfl rfl) (.fieldAddr fld74x0 rfl)<|O.op (.g rfl rfl) (.loadAt flat9 rfl hb1 rfl) ?_;refine O.op (.g rfl rfl) (.lenS rfl underlying9 rfl)<|O.op (.g rfl rfl) (.gtr rfl rfl)<|O.sF 17 rfl (by exact decide_eq_false (by rw [hz0];omega)) ?_;refine O.q 2 rfl<|O.op (.g rfl rfl) (.loadAgg isAgg166 zB rfl hb3) ?_;refine O.call0 (.g rfl rfl) rfl zB rfl rfl ((r7dot_c (rDot x) rfl)) ?_;rintro _ _ ⟨rfl,rfl⟩
  try simp only [zx1,zx2,zx3]
  refine O.sT 21 rfl (by exact c2) ?_;refine O.op (.g rfl rfl) (.not rfl)<|O.q 2 rfl<|O.op (.g rfl rfl) (.fieldAddr fld74x3 rfl)<|O.op (.g rfl rfl) (.loadAt flat72 rfl (hb1.drop 3) rfl) ?_;refine O.call0 (.g rfl rfl) rfl zB rfl rfl ((r7right_c k3)) ?_;rintro _ _ ⟨rfl,rfl⟩
  try simp only [zx1,zx2,zx3]
  refine O.sT 27 rfl (by exact c3) ?_;refine O.op (.g rfl rfl) (.not rfl)<|O.q 2 rfl<|O.op (.g rfl rfl) (.fieldAddr fld74x3 rfl)<|O.op (.g rfl rfl) (.loadAt flat72 rfl (hb1.drop 3) rfl) ?_;refine O.op (.g rfl rfl) (.loadAgg isAgg166 zB rfl hb3) ?_;refine O.call0 (.g rfl rfl) rfl zB rfl rfl ((r7has_c (rDot x) rfl k3)) ?_;rintro _ _ ⟨rfl,rfl⟩
  try simp only [zx1,zx2,zx3]
  refine O.sT 34 rfl (by exact (by simpa using n4)) ?_;refine O.q 1 rfl<|O.nil<|S.condT rfl<|S.seq<|S.region rfl<|O.q 1 rfl<|O.nil ?_;exact S.rt results215 rfl hR ⟨congrArg _ (Bool.eq_false_iff.2 fun q=>n4 (shaped_iff.1 q).2.2.2.2.1).symm,rfl⟩
 have c4:=Classical.not_not.1 n4
 by_cases n5:¬ (x.2.2.2.2.2.1.length≤1024)
 ·
  refine S.region rfl<|O.op (.p rfl) (.fieldAddr fld74x1 rfl)<|O.op (.p rfl) (.loadAt flat3 rfl (hb1.drop 1) rfl) ?_;refine O.op (.p rfl) (.fieldAddr fld74x2 rfl)<|O.op (.p rfl) (.loadAt flat3 rfl (hb1.drop 2) rfl) ?_;refine O.op (.p rfl) (.build (cs:=[_,_]) underlying166 rfl rfl rfl rfl rfl)<|O.opE (.p rfl) (.alloc (cs:=[.int .i64 0,.int .i64 0]) zeroValue166 rfl) ?_;rintro _ _ ⟨b3,rfl,rfl⟩;refine O.opU rfl (.storeObj zB rfl rfl rfl rfl zE zI) ?_;refine O.nil<|S.seq<|S.seq<|S.frzO zE fun g hs hm hb3=>?_;replace hg:=Fr.sub_trans hg hs;replace hR:=melted hR hm
  try replace h:=h.mono hs
  try replace k3:=k3.mono hs
  try replace k5:=k5.mono hs
  try replace k6:=k6.mono hs
  try replace hb1:=hb1.mono hs
  clear hs hm;refine S.region rfl<|O.op (.p rfl) (.fieldAddr fld74x0 rfl)<|O.op (.p rfl) (.loadAt flat9 rfl hb1 rfl) ?_;refine O.op (.p rfl) (.lenS rfl underlying9 rfl)<|O.op (.p rfl) (.lss rfl rfl)<|O.sF 12 rfl (by exact decide_eq_false (by rw [hz0];omega)) ?_;refine O.q 1 rfl<|O.op (.g rfl rfl) (.fieldAddr fld74x0 rfl)<|O.op (.g rfl rfl) (.loadAt flat9 rfl hb1 rfl) ?_;refine O.op (.g rfl rfl) (.lenS rfl underlying9 rfl)<|O.op (.g rfl rfl) (.gtr rfl rfl)<|O.sF 17 rfl (by exact decide_eq_false (by rw [hz0];omega)) ?_;refine O.q 2 rfl<|O.op (.g rfl rfl) (.loadAgg isAgg166 zB rfl hb3) ?_;refine O.call0 (.g rfl rfl) rfl zB rfl rfl ((r7dot_c (rDot x) rfl)) ?_;rintro _ _ ⟨rfl,rfl⟩
  try simp only [zx1,zx2,zx3]
  refine O.sT 21 rfl (by exact c2) ?_;refine O.op (.g rfl rfl) (.not rfl)<|O.q 2 rfl<|O.op (.g rfl rfl) (.fieldAddr fld74x3 rfl)<|O.op (.g rfl rfl) (.loadAt flat72 rfl (hb1.drop 3) rfl) ?_;refine O.call0 (.g rfl rfl) rfl zB rfl rfl ((r7right_c k3)) ?_;rintro _ _ ⟨rfl,rfl⟩
  try simp only [zx1,zx2,zx3]
  refine O.sT 27 rfl (by exact c3) ?_;refine O.op (.g rfl rfl) (.not rfl)<|O.q 2 rfl<|O.op (.g rfl rfl) (.fieldAddr fld74x3 rfl)<|O.op (.g rfl rfl) (.loadAt flat72 rfl (hb1.drop 3) rfl) ?_;refine O.op (.g rfl rfl) (.loadAgg isAgg166 zB rfl hb3) ?_;refine O.call0 (.g rfl rfl) rfl zB rfl rfl ((r7has_c (rDot x) rfl k3)) ?_;rintro _ _ ⟨rfl,rfl⟩
  try simp only [zx1,zx2,zx3]
  refine O.sF 34 rfl (by exact c4) ?_;refine O.q 1 rfl<|O.nil<|S.condF rfl<|S.skip<|S.seq<|S.region rfl<|O.op (.p rfl) (.fieldAddr fld74x5 rfl)<|O.op (.p rfl) (.loadAt flat31 rfl (hb1.drop 5) rfl) ?_;refine O.op (.p rfl) (.len rfl underlying31 rfl)<|O.op (.p rfl) (.leq rfl rfl)<|O.sF 39 rfl (by exact decide_eq_false zD) ?_;refine O.q 12 rfl<|O.nil ?_;exact S.rt results215 rfl hR ⟨congrArg _ (Bool.eq_false_iff.2 fun q=>n5 (shaped_iff.1 q).2.2.2.2.2.1).symm,rfl⟩
 have c5:=Classical.not_not.1 n5
 cases g4:x.2.2.2.2.1 with
 |false =>
  have hs:shaped x=true:=shaped_iff.2 ⟨c0,c1,c2,c3,c4,c5,fun q=>by rw [g4] at q;cases q⟩;refine S.region rfl<|O.op (.p rfl) (.fieldAddr fld74x1 rfl)<|O.op (.p rfl) (.loadAt flat3 rfl (hb1.drop 1) rfl) ?_;refine O.op (.p rfl) (.fieldAddr fld74x2 rfl)<|O.op (.p rfl) (.loadAt flat3 rfl (hb1.drop 2) rfl) ?_;refine O.op (.p rfl) (.build (cs:=[_,_]) underlying166 rfl rfl rfl rfl rfl)<|O.opE (.p rfl) (.alloc (cs:=[.int .i64 0,.int .i64 0]) zeroValue166 rfl) ?_;rintro _ _ ⟨b3,rfl,rfl⟩;refine O.opU rfl (.storeObj zB rfl rfl rfl rfl zE zI) ?_;refine O.nil<|S.seq<|S.seq<|S.frzO zE fun g hs hm hb3=>?_;replace hg:=Fr.sub_trans hg hs;replace hR:=melted hR hm
  try replace h:=h.mono hs
  try replace k3:=k3.mono hs
  try replace k5:=k5.mono hs
  try replace k6:=k6.mono hs
  try replace hb1:=hb1.mono hs
  clear hs hm;refine S.region rfl<|O.op (.p rfl) (.fieldAddr fld74x0 rfl)<|O.op (.p rfl) (.loadAt flat9 rfl hb1 rfl) ?_;refine O.op (.p rfl) (.lenS rfl underlying9 rfl)<|O.op (.p rfl) (.lss rfl rfl)<|O.sF 12 rfl (by exact decide_eq_false (by rw [hz0];omega)) ?_;refine O.q 1 rfl<|O.op (.g rfl rfl) (.fieldAddr fld74x0 rfl)<|O.op (.g rfl rfl) (.loadAt flat9 rfl hb1 rfl) ?_;refine O.op (.g rfl rfl) (.lenS rfl underlying9 rfl)<|O.op (.g rfl rfl) (.gtr rfl rfl)<|O.sF 17 rfl (by exact decide_eq_false (by rw [hz0];omega)) ?_;refine O.q 2 rfl<|O.op (.g rfl rfl) (.loadAgg isAgg166 zB rfl hb3) ?_;refine O.call0 (.g rfl rfl) rfl zB rfl rfl ((r7dot_c (rDot x) rfl)) ?_;rintro _ _ ⟨rfl,rfl⟩
  try simp only [zx1,zx2,zx3]
  refine O.sT 21 rfl (by exact c2) ?_;refine O.op (.g rfl rfl) (.not rfl)<|O.q 2 rfl<|O.op (.g rfl rfl) (.fieldAddr fld74x3 rfl)<|O.op (.g rfl rfl) (.loadAt flat72 rfl (hb1.drop 3) rfl) ?_;refine O.call0 (.g rfl rfl) rfl zB rfl rfl ((r7right_c k3)) ?_;rintro _ _ ⟨rfl,rfl⟩
  try simp only [zx1,zx2,zx3]
  refine O.sT 27 rfl (by exact c3) ?_;refine O.op (.g rfl rfl) (.not rfl)<|O.q 2 rfl<|O.op (.g rfl rfl) (.fieldAddr fld74x3 rfl)<|O.op (.g rfl rfl) (.loadAt flat72 rfl (hb1.drop 3) rfl) ?_;refine O.op (.g rfl rfl) (.loadAgg isAgg166 zB rfl hb3) ?_;refine O.call0 (.g rfl rfl) rfl zB rfl rfl ((r7has_c (rDot x) rfl k3)) ?_;rintro _ _ ⟨rfl,rfl⟩
  try simp only [zx1,zx2,zx3]
  refine O.sF 34 rfl (by exact c4) ?_;refine O.q 1 rfl<|O.nil<|S.condF rfl<|S.skip<|S.seq<|S.region rfl<|O.op (.p rfl) (.fieldAddr fld74x5 rfl)<|O.op (.p rfl) (.loadAt flat31 rfl (hb1.drop 5) rfl) ?_;refine O.op (.p rfl) (.len rfl underlying31 rfl)<|O.op (.p rfl) (.leq rfl rfl)<|O.sT 39 rfl (by exact decide_eq_true zD) ?_;refine O.q 1 rfl<|O.op (.g rfl rfl) (.fieldAddr fld74x4 rfl)<|O.op (.g rfl rfl) (.loadAt flat4 rfl (hb1.drop 4) rfl) ?_;refine O.sF 42 rfl (by exact g4) ?_;refine O.op (.g rfl rfl) (.not rfl)<|O.q 8 rfl<|O.nil ?_;exact S.rt results215 rfl hR ⟨by rw [hs],rfl⟩
 |true =>
  by_cases n6:x.2.2.2.2.2.1.length=0
  ·have hs:shaped x=true:=shaped_iff.2 ⟨c0,c1,c2,c3,c4,c5,fun _=>n6⟩
   refine S.region rfl<|O.op (.p rfl) (.fieldAddr fld74x1 rfl)<|O.op (.p rfl) (.loadAt flat3 rfl (hb1.drop 1) rfl) ?_;refine O.op (.p rfl) (.fieldAddr fld74x2 rfl)<|O.op (.p rfl) (.loadAt flat3 rfl (hb1.drop 2) rfl) ?_;refine O.op (.p rfl) (.build (cs:=[_,_]) underlying166 rfl rfl rfl rfl rfl)<|O.opE (.p rfl) (.alloc (cs:=[.int .i64 0,.int .i64 0]) zeroValue166 rfl) ?_;rintro _ _ ⟨b3,rfl,rfl⟩;refine O.opU rfl (.storeObj zB rfl rfl rfl rfl zE zI) ?_;refine O.nil<|S.seq<|S.seq<|S.frzO zE fun g hs hm hb3=>?_;replace hg:=Fr.sub_trans hg hs;replace hR:=melted hR hm
   try replace h:=h.mono hs
   try replace k3:=k3.mono hs
   try replace k5:=k5.mono hs
   try replace k6:=k6.mono hs
   try replace hb1:=hb1.mono hs
   clear hs hm;refine S.region rfl<|O.op (.p rfl) (.fieldAddr fld74x0 rfl)<|O.op (.p rfl) (.loadAt flat9 rfl hb1 rfl) ?_;refine O.op (.p rfl) (.lenS rfl underlying9 rfl)<|O.op (.p rfl) (.lss rfl rfl)<|O.sF 12 rfl (by exact decide_eq_false (by rw [hz0];omega)) ?_;refine O.q 1 rfl<|O.op (.g rfl rfl) (.fieldAddr fld74x0 rfl)<|O.op (.g rfl rfl) (.loadAt flat9 rfl hb1 rfl) ?_;refine O.op (.g rfl rfl) (.lenS rfl underlying9 rfl)<|O.op (.g rfl rfl) (.gtr rfl rfl)<|O.sF 17 rfl (by exact decide_eq_false (by rw [hz0];omega)) ?_;refine O.q 2 rfl<|O.op (.g rfl rfl) (.loadAgg isAgg166 zB rfl hb3) ?_;refine O.call0 (.g rfl rfl) rfl zB rfl rfl ((r7dot_c (rDot x) rfl)) ?_;rintro _ _ ⟨rfl,rfl⟩
   try simp only [zx1,zx2,zx3]
   refine O.sT 21 rfl (by exact c2) ?_;refine O.op (.g rfl rfl) (.not rfl)<|O.q 2 rfl<|O.op (.g rfl rfl) (.fieldAddr fld74x3 rfl)<|O.op (.g rfl rfl) (.loadAt flat72 rfl (hb1.drop 3) rfl) ?_;refine O.call0 (.g rfl rfl) rfl zB rfl rfl ((r7right_c k3)) ?_;rintro _ _ ⟨rfl,rfl⟩
   try simp only [zx1,zx2,zx3]
   refine O.sT 27 rfl (by exact c3) ?_;refine O.op (.g rfl rfl) (.not rfl)<|O.q 2 rfl<|O.op (.g rfl rfl) (.fieldAddr fld74x3 rfl)<|O.op (.g rfl rfl) (.loadAt flat72 rfl (hb1.drop 3) rfl) ?_;refine O.op (.g rfl rfl) (.loadAgg isAgg166 zB rfl hb3) ?_;refine O.call0 (.g rfl rfl) rfl zB rfl rfl ((r7has_c (rDot x) rfl k3)) ?_;rintro _ _ ⟨rfl,rfl⟩
   try simp only [zx1,zx2,zx3]
   refine O.sF 34 rfl (by exact c4) ?_;refine O.q 1 rfl<|O.nil<|S.condF rfl<|S.skip<|S.seq<|S.region rfl<|O.op (.p rfl) (.fieldAddr fld74x5 rfl)<|O.op (.p rfl) (.loadAt flat31 rfl (hb1.drop 5) rfl) ?_;refine O.op (.p rfl) (.len rfl underlying31 rfl)<|O.op (.p rfl) (.leq rfl rfl)<|O.sT 39 rfl (by exact decide_eq_true zD) ?_;refine O.q 1 rfl<|O.op (.g rfl rfl) (.fieldAddr fld74x4 rfl)<|O.op (.g rfl rfl) (.loadAt flat4 rfl (hb1.drop 4) rfl) ?_;refine O.sT 42 rfl (by exact g4) ?_;refine O.op (.g rfl rfl) (.not rfl)<|O.q 1 rfl<|O.op (.g rfl rfl) (.fieldAddr fld74x5 rfl)<|O.op (.g rfl rfl) (.loadAt flat31 rfl (hb1.drop 5) rfl) ?_;refine O.op (.g rfl rfl) (.len rfl underlying31 rfl)<|O.op (.g rfl rfl) (.eql rfl rfl)<|O.sT 48 rfl (by exact decide_eq_true zD) ?_;refine O.q 3 rfl<|O.nil ?_;exact S.rt results215 rfl hR ⟨by rw [hs],rfl⟩
  ·have hs:shaped x=false:=Bool.eq_false_iff.2 fun q=>n6 ((shaped_iff.1 q).2.2.2.2.2.2 g4)
   refine S.region rfl<|O.op (.p rfl) (.fieldAddr fld74x1 rfl)<|O.op (.p rfl) (.loadAt flat3 rfl (hb1.drop 1) rfl) ?_;refine O.op (.p rfl) (.fieldAddr fld74x2 rfl)<|O.op (.p rfl) (.loadAt flat3 rfl (hb1.drop 2) rfl) ?_;refine O.op (.p rfl) (.build (cs:=[_,_]) underlying166 rfl rfl rfl rfl rfl)<|O.opE (.p rfl) (.alloc (cs:=[.int .i64 0,.int .i64 0]) zeroValue166 rfl) ?_;rintro _ _ ⟨b3,rfl,rfl⟩;refine O.opU rfl (.storeObj zB rfl rfl rfl rfl zE zI) ?_;refine O.nil<|S.seq<|S.seq<|S.frzO zE fun g hs hm hb3=>?_;replace hg:=Fr.sub_trans hg hs;replace hR:=melted hR hm
   try replace h:=h.mono hs
   try replace k3:=k3.mono hs
   try replace k5:=k5.mono hs
   try replace k6:=k6.mono hs
   try replace hb1:=hb1.mono hs
   clear hs hm;refine S.region rfl<|O.op (.p rfl) (.fieldAddr fld74x0 rfl)<|O.op (.p rfl) (.loadAt flat9 rfl hb1 rfl) ?_;refine O.op (.p rfl) (.lenS rfl underlying9 rfl)<|O.op (.p rfl) (.lss rfl rfl)<|O.sF 12 rfl (by exact decide_eq_false (by rw [hz0];omega)) ?_;refine O.q 1 rfl<|O.op (.g rfl rfl) (.fieldAddr fld74x0 rfl)<|O.op (.g rfl rfl) (.loadAt flat9 rfl hb1 rfl) ?_;refine O.op (.g rfl rfl) (.lenS rfl underlying9 rfl)<|O.op (.g rfl rfl) (.gtr rfl rfl)<|O.sF 17 rfl (by exact decide_eq_false (by rw [hz0];omega)) ?_;refine O.q 2 rfl<|O.op (.g rfl rfl) (.loadAgg isAgg166 zB rfl hb3) ?_;refine O.call0 (.g rfl rfl) rfl zB rfl rfl ((r7dot_c (rDot x) rfl)) ?_;rintro _ _ ⟨rfl,rfl⟩
   try simp only [zx1,zx2,zx3]
   refine O.sT 21 rfl (by exact c2) ?_;refine O.op (.g rfl rfl) (.not rfl)<|O.q 2 rfl<|O.op (.g rfl rfl) (.fieldAddr fld74x3 rfl)<|O.op (.g rfl rfl) (.loadAt flat72 rfl (hb1.drop 3) rfl) ?_;refine O.call0 (.g rfl rfl) rfl zB rfl rfl ((r7right_c k3)) ?_;rintro _ _ ⟨rfl,rfl⟩
   try simp only [zx1,zx2,zx3]
   refine O.sT 27 rfl (by exact c3) ?_;refine O.op (.g rfl rfl) (.not rfl)<|O.q 2 rfl<|O.op (.g rfl rfl) (.fieldAddr fld74x3 rfl)<|O.op (.g rfl rfl) (.loadAt flat72 rfl (hb1.drop 3) rfl) ?_;refine O.op (.g rfl rfl) (.loadAgg isAgg166 zB rfl hb3) ?_;refine O.call0 (.g rfl rfl) rfl zB rfl rfl ((r7has_c (rDot x) rfl k3)) ?_;rintro _ _ ⟨rfl,rfl⟩
   try simp only [zx1,zx2,zx3]
   refine O.sF 34 rfl (by exact c4) ?_;refine O.q 1 rfl<|O.nil<|S.condF rfl<|S.skip<|S.seq<|S.region rfl<|O.op (.p rfl) (.fieldAddr fld74x5 rfl)<|O.op (.p rfl) (.loadAt flat31 rfl (hb1.drop 5) rfl) ?_;refine O.op (.p rfl) (.len rfl underlying31 rfl)<|O.op (.p rfl) (.leq rfl rfl)<|O.sT 39 rfl (by exact decide_eq_true zD) ?_;refine O.q 1 rfl<|O.op (.g rfl rfl) (.fieldAddr fld74x4 rfl)<|O.op (.g rfl rfl) (.loadAt flat4 rfl (hb1.drop 4) rfl) ?_;refine O.sT 42 rfl (by exact g4) ?_;refine O.op (.g rfl rfl) (.not rfl)<|O.q 1 rfl<|O.op (.g rfl rfl) (.fieldAddr fld74x5 rfl)<|O.op (.g rfl rfl) (.loadAt flat31 rfl (hb1.drop 5) rfl) ?_;refine O.op (.g rfl rfl) (.len rfl underlying31 rfl)<|O.op (.g rfl rfl) (.eql rfl rfl)<|O.sF 48 rfl (by exact decide_eq_false zD) ?_;refine O.q 3 rfl<|O.nil ?_;exact S.rt results215 rfl hR ⟨by rw [hs],rfl⟩
theorem r8right_c {r:Fr} {cs:List Value} {x:RecT} (h:RecRp.rel r cs x):Con prog 213 #[.agg cs.toArray] r [] (Ret fun v η=>v=.bool (recOk x)∧η=[]):=by
 obtain ⟨xa3,xa5,xa6,xc3,xc5,xc6,rfl,k0,k1,k2,k3,k5,k6⟩:=RecRp.sh h;have hz0:=str_size x.1;refine Con.of (n:=11) _ rfl func213 rfl rfl rfl fun g hg R hR=>?_;have h:=h.mono hg;have k3:=k3.mono hg;have k5:=k5.mono hg;have k6:=k6.mono hg;refine S.seq<|S.region rfl<|O.opE (.p rfl) (.box (cs:=[_,_,_,_,_,_,_]) rfl rfl) ?_;rintro _ _ ⟨b1,rfl,rfl⟩;refine O.q 1 rfl<|O.nil<|S.seq<|S.frzO zE fun g hs hm hb1=>?_;replace hg:=Fr.sub_trans hg hs;replace hR:=melted hR hm
 try replace h:=h.mono hs
 try replace k3:=k3.mono hs
 try replace k5:=k5.mono hs
 try replace k6:=k6.mono hs
 clear hs hm
 cases e:shaped x with
 |false =>
  refine S.region rfl<|O.op (.p rfl) (.loadAgg isAgg74 zB rfl hb1) ?_;refine O.call0 (.p rfl) rfl zB rfl rfl ((r8shape_c h)) ?_;rintro _ _ ⟨rfl,rfl⟩
  try simp only [zx1,zx2,zx3]
  refine O.sF 4 rfl (by exact e) ?_;refine O.q 7 rfl<|O.nil ?_;exact S.rt results213 rfl hR ⟨by simp [recOk,e],rfl⟩
 |true =>
  refine S.region rfl<|O.op (.p rfl) (.loadAgg isAgg74 zB rfl hb1) ?_;refine O.call0 (.p rfl) rfl zB rfl rfl ((r8shape_c h)) ?_;rintro _ _ ⟨rfl,rfl⟩
  try simp only [zx1,zx2,zx3]
  refine O.sT 4 rfl (by exact e) ?_;refine O.q 1 rfl<|O.op (.g rfl rfl) (.fieldAddr fld74x6 rfl)<|O.op (.g rfl rfl) (.loadAt flat31 rfl (hb1.drop 6) rfl) ?_;refine O.op (.g rfl rfl) (.len rfl underlying31 rfl)<|O.op (.g rfl rfl) (.eql rfl rfl)<|O.q 2 rfl<|O.nil ?_;exact S.rt results213 rfl hR ⟨congrArg _ (by rw [recOk,e,Bool.true_and];exact decide_eq_decide.2 zD),rfl⟩
theorem r8over_c {r:Fr} {cs ds:List Value} {x y:RecT} (h:RecRp.rel r cs x) (h' :RecRp.rel r ds y):Con prog 109 #[.agg cs.toArray,.agg ds.toArray] r [] (Ret fun v η=>v=.bool (over x y)∧η=[]):=by
 obtain ⟨xa3,xa5,xa6,xc3,xc5,xc6,rfl,k0,k1,k2,k3,k5,k6⟩:=RecRp.sh h;obtain ⟨ya3,ya5,ya6,yc3,yc5,yc6,rfl,j0,j1,j2,j3,j5,j6⟩:=RecRp.sh h';refine Con.of (n:=28) _ rfl func109 rfl rfl rfl fun g hg R hR=>?_;have h:=h.mono hg;have h' :=h'.mono hg;have k3:=k3.mono hg;refine S.seq<|S.region rfl<|O.opE (.p rfl) (.box (cs:=[_,_,_,_,_,_,_]) rfl rfl) ?_;rintro _ _ ⟨b2,rfl,rfl⟩;refine O.opE (.p rfl) (.box (cs:=[_,_,_,_,_,_,_]) rfl rfl) ?_;rintro _ _ ⟨b3,rfl,rfl⟩;refine O.q 1 rfl<|O.nil (S.seq ?_)
 cases e1:shaped x with
 |false =>
  refine S.region rfl<|O.op (.p rfl) (.loA (news:=[_,_,_,_,_,_,_]) isAgg74) ?_;refine O.call0 (.p rfl) rfl zB rfl rfl ((r8shape_c h)) ?_;rintro _ _ ⟨rfl,rfl⟩
  try simp only [zx1,zx2,zx3]
  refine O.sF 6 rfl (by exact e1) ?_;refine O.q 22 rfl<|O.nil ?_;exact S.rt results109 rfl hR ⟨by simp [over,e1],rfl⟩
 |true =>
  cases e2:shaped y with
  |false =>
   refine S.region rfl<|O.op (.p rfl) (.loA (news:=[_,_,_,_,_,_,_]) isAgg74) ?_;refine O.call0 (.p rfl) rfl zB rfl rfl ((r8shape_c h)) ?_;rintro _ _ ⟨rfl,rfl⟩
   try simp only [zx1,zx2,zx3]
   refine O.sT 6 rfl (by exact e1) ?_;refine O.q 1 rfl<|O.op (.g rfl rfl) (.loA (news:=[_,_,_,_,_,_,_]) isAgg74) ?_;refine O.call0 (.g rfl rfl) rfl zB rfl rfl ((r8shape_c h')) ?_;rintro _ _ ⟨rfl,rfl⟩
   try simp only [zx1,zx2,zx3]
   refine O.sF 9 rfl (by exact e2) ?_;refine O.q 19 rfl<|O.nil ?_;exact S.rt results109 rfl hR ⟨by simp [over,e2],rfl⟩
  |true =>
   by_cases e3:x.1=y.1
   ·
    refine S.region rfl<|O.op (.p rfl) (.loA (news:=[_,_,_,_,_,_,_]) isAgg74) ?_;refine O.call0 (.p rfl) rfl zB rfl rfl ((r8shape_c h)) ?_;rintro _ _ ⟨rfl,rfl⟩
    try simp only [zx1,zx2,zx3]
    refine O.sT 6 rfl (by exact e1) ?_;refine O.q 1 rfl<|O.op (.g rfl rfl) (.loA (news:=[_,_,_,_,_,_,_]) isAgg74) ?_;refine O.call0 (.g rfl rfl) rfl zB rfl rfl ((r8shape_c h')) ?_;rintro _ _ ⟨rfl,rfl⟩
    try simp only [zx1,zx2,zx3]
    refine O.sT 9 rfl (by exact e2) ?_;refine O.q 2 rfl<|O.op (.g rfl rfl) (.fieldObj fld74x0 rfl)<|O.op (.g rfl rfl) (.lo flat9) ?_;refine O.op (.g rfl rfl) (.fieldObj fld74x0 rfl)<|O.op (.g rfl rfl) (.lo flat9) ?_;refine O.op (.g rfl rfl) (.eqlS rfl rfl)<|O.sT 16 rfl (by simp [e3]) ?_;refine O.q 2 rfl<|O.op (.g rfl rfl) (.fieldObj fld74x3 rfl)<|O.op (.g rfl rfl) (.lo flat72) ?_;refine O.op (.g rfl rfl) (.fieldObj fld74x1 rfl)<|O.op (.g rfl rfl) (.lo flat3) ?_;refine O.op (.g rfl rfl) (.fieldObj fld74x2 rfl)<|O.op (.g rfl rfl) (.lo flat3) ?_;refine O.op (.g rfl rfl) (.build (cs:=[_,_]) underlying166 rfl rfl rfl rfl rfl)<|O.call0 (.g rfl rfl) rfl zB rfl rfl ((r7has_c (rDot y) rfl k3)) ?_;rintro _ _ ⟨rfl,rfl⟩
    try simp only [zx1,zx2,zx3]
    refine O.q 2 rfl<|O.nil ?_;exact S.rt results109 rfl hR ⟨by simp [over,e1,e2,e3],rfl⟩
   ·
    refine S.region rfl<|O.op (.p rfl) (.loA (news:=[_,_,_,_,_,_,_]) isAgg74) ?_;refine O.call0 (.p rfl) rfl zB rfl rfl ((r8shape_c h)) ?_;rintro _ _ ⟨rfl,rfl⟩
    try simp only [zx1,zx2,zx3]
    refine O.sT 6 rfl (by exact e1) ?_;refine O.q 1 rfl<|O.op (.g rfl rfl) (.loA (news:=[_,_,_,_,_,_,_]) isAgg74) ?_;refine O.call0 (.g rfl rfl) rfl zB rfl rfl ((r8shape_c h')) ?_;rintro _ _ ⟨rfl,rfl⟩
    try simp only [zx1,zx2,zx3]
    refine O.sT 9 rfl (by exact e2) ?_;refine O.q 2 rfl<|O.op (.g rfl rfl) (.fieldObj fld74x0 rfl)<|O.op (.g rfl rfl) (.lo flat9) ?_;refine O.op (.g rfl rfl) (.fieldObj fld74x0 rfl)<|O.op (.g rfl rfl) (.lo flat9) ?_;refine O.op (.g rfl rfl) (.eqlS rfl rfl)<|O.sF 16 rfl (by simp [e3]) ?_;refine O.q 12 rfl<|O.nil ?_;exact S.rt results109 rfl hR ⟨by simp [over,e3],rfl⟩
end Go.Proofs.YtodhbhanmdfdeaaGreat
