/- Texts of this proof. -/
import Derived.Test.YtodhbhanmdfdeaaGreatQSib4
import Derived.Test.YtodhbhanmdfdeaaGreatQSpRoot
open Go Go.Sp Go.Proofs.Tryz
set_option maxRecDepth 100000
set_option maxHeartbeats 1000000
attribute [local irreducible] obj Own OwnP
namespace Go.Proofs.YtodhbhanmdfdeaaGreat
theorem pshape_c {r:Fr} {cs:List Value} {x:RootT} (h:RootRp.rel r cs x):Con prog 328 #[.agg cs.toArray] r [] (Ret fun v η=>v=.bool (rootShape x)∧η=[]):=by
 obtain ⟨xa3,xa4,xc3,xc4,rfl,k0,k1,k2,k3,k4⟩:=RootRp.sh h;refine Con.o func328 fun g hg R hR=>?_;refine S.seq<|S.region rfl<|O.opE (.p rfl) (.box (cs:=[_,_,_,_,_]) rfl rfl) ?_;rintro _ _ ⟨b1,rfl,rfl⟩;refine zz 9 ?_
 first|refine O.caseD 7 rfl (fun h7=>?_) (fun h7=>?_)|refine O.caseB 7 rfl (fun h7=>?_) (fun h7=>?_)
 ·refine zz 6 ?_
  first|refine O.caseD 13 rfl (fun h13=>?_) (fun h13=>?_)|refine O.caseB 13 rfl (fun h13=>?_) (fun h13=>?_)
  ·refine zz 6 ?_
   first|refine O.caseD 19 rfl (fun h19=>?_) (fun h19=>?_)|refine O.caseB 19 rfl (fun h19=>?_) (fun h19=>?_)
   ·refine zz 6 ?_
    first|refine O.caseD 25 rfl (fun h25=>?_) (fun h25=>?_)|refine O.caseB 25 rfl (fun h25=>?_) (fun h25=>?_)
    ·refine zz 6 ?_
     first|refine O.caseD 31 rfl (fun h31=>?_) (fun h31=>?_)|refine O.caseB 31 rfl (fun h31=>?_) (fun h31=>?_)
     ·refine zz 6 ?_
      first|refine O.caseD 37 rfl (fun h37=>?_) (fun h37=>?_)|refine O.caseB 37 rfl (fun h37=>?_) (fun h37=>?_)
      ·refine zz 8 ?_
       refine S.ret results328 rfl fun w hw=>Holds.end_ hR hw ?_
       first|exact ⟨_,⟨congrArg _ (decide_eq_false zD).symm,rfl⟩,by repeat (first|exact zpa|exact zpn|(apply zpc;focus (repeat (first|exact zh|apply zt)))|apply zps)⟩|exact ⟨_,⟨congrArg _ (decide_eq_decide.2 zD),rfl⟩,by repeat (first|exact zpa|exact zpn|(apply zpc;focus (repeat (first|exact zh|apply zt)))|apply zps)⟩
      ·refine O.q 7 rfl<|O.nil<|S.ret results328 rfl fun w hw=>Holds.end_ hR hw ?_
       first|exact ⟨_,⟨congrArg _ (decide_eq_false zD).symm,rfl⟩,by repeat (first|exact zpa|exact zpn|(apply zpc;focus (repeat (first|exact zh|apply zt)))|apply zps)⟩|exact ⟨_,⟨congrArg _ (decide_eq_decide.2 zD),rfl⟩,by repeat (first|exact zpa|exact zpn|(apply zpc;focus (repeat (first|exact zh|apply zt)))|apply zps)⟩
     ·refine O.q 13 rfl<|O.nil<|S.ret results328 rfl fun w hw=>Holds.end_ hR hw ?_
      first|exact ⟨_,⟨congrArg _ (decide_eq_false zD).symm,rfl⟩,by repeat (first|exact zpa|exact zpn|(apply zpc;focus (repeat (first|exact zh|apply zt)))|apply zps)⟩|exact ⟨_,⟨congrArg _ (decide_eq_decide.2 zD),rfl⟩,by repeat (first|exact zpa|exact zpn|(apply zpc;focus (repeat (first|exact zh|apply zt)))|apply zps)⟩
    ·refine O.q 19 rfl<|O.nil<|S.ret results328 rfl fun w hw=>Holds.end_ hR hw ?_
     first|exact ⟨_,⟨congrArg _ (decide_eq_false zD).symm,rfl⟩,by repeat (first|exact zpa|exact zpn|(apply zpc;focus (repeat (first|exact zh|apply zt)))|apply zps)⟩|exact ⟨_,⟨congrArg _ (decide_eq_decide.2 zD),rfl⟩,by repeat (first|exact zpa|exact zpn|(apply zpc;focus (repeat (first|exact zh|apply zt)))|apply zps)⟩
   ·refine O.q 25 rfl<|O.nil<|S.ret results328 rfl fun w hw=>Holds.end_ hR hw ?_
    first|exact ⟨_,⟨congrArg _ (decide_eq_false zD).symm,rfl⟩,by repeat (first|exact zpa|exact zpn|(apply zpc;focus (repeat (first|exact zh|apply zt)))|apply zps)⟩|exact ⟨_,⟨congrArg _ (decide_eq_decide.2 zD),rfl⟩,by repeat (first|exact zpa|exact zpn|(apply zpc;focus (repeat (first|exact zh|apply zt)))|apply zps)⟩
  ·refine O.q 31 rfl<|O.nil<|S.ret results328 rfl fun w hw=>Holds.end_ hR hw ?_
   first|exact ⟨_,⟨congrArg _ (decide_eq_false zD).symm,rfl⟩,by repeat (first|exact zpa|exact zpn|(apply zpc;focus (repeat (first|exact zh|apply zt)))|apply zps)⟩|exact ⟨_,⟨congrArg _ (decide_eq_decide.2 zD),rfl⟩,by repeat (first|exact zpa|exact zpn|(apply zpc;focus (repeat (first|exact zh|apply zt)))|apply zps)⟩
 ·refine O.q 37 rfl<|O.nil<|S.ret results328 rfl fun w hw=>Holds.end_ hR hw ?_
  first|exact ⟨_,⟨congrArg _ (decide_eq_false zD).symm,rfl⟩,by repeat (first|exact zpa|exact zpn|(apply zpc;focus (repeat (first|exact zh|apply zt)))|apply zps)⟩|exact ⟨_,⟨congrArg _ (decide_eq_decide.2 zD),rfl⟩,by repeat (first|exact zpa|exact zpn|(apply zpc;focus (repeat (first|exact zh|apply zt)))|apply zps)⟩
theorem pright_c {r:Fr} {cs:List Value} {x:RootT} (h:RootRp.rel r cs x):Con prog 299 #[.agg cs.toArray] r [] (Ret fun v η=>v=.bool (rootOk x)∧η=[]):=by
 obtain ⟨xa3,xa4,xc3,xc4,rfl,k0,k1,k2,k3,k4⟩:=RootRp.sh h;refine Con.o func299 fun g hg R hR=>?_;have h:=h.mono hg
 cases e:rootShape x with
 |false =>
  refine S.seq<|S.region rfl<|O.opE (.p rfl) (.box (cs:=[_,_,_,_,_]) rfl rfl) ?_;rintro _ _ ⟨b1,rfl,rfl⟩;refine zz 5 ?_;refine O.v0 (.p rfl) rfl zB rfl rfl (pshape_c h) ?_;refine O.sF 4 rfl (by exact e) ?_;refine zz 9 ?_;exact S.rt results299 rfl hR ⟨by simp [rootOk,e],rfl⟩
 |true =>
  refine S.seq<|S.region rfl<|O.opE (.p rfl) (.box (cs:=[_,_,_,_,_]) rfl rfl) ?_;rintro _ _ ⟨b1,rfl,rfl⟩;refine zz 5 ?_;refine O.v0 (.p rfl) rfl zB rfl rfl (pshape_c h) ?_;refine O.sT 4 rfl (by exact e) ?_;refine zz 9 ?_;exact S.rt results299 rfl hR ⟨by simp [rootOk,e];omega,rfl⟩
theorem tRight_c {r:Fr} {cs:List Value} {x:RootT} (h:RootRp.rel r cs x):Con prog 270 #[.agg cs.toArray] r [] (Ret fun v η=>v=.bool (rootOk x)∧η=[]):=by
 obtain ⟨xa3,xa4,xc3,xc4,rfl,k0,k1,k2,k3,k4⟩:=RootRp.sh h;refine Con.o func270 fun g hg R hR=>?_;have h:=h.mono hg;refine S.seq<|S.region rfl<|O.opE (.p rfl) (.box (cs:=[_,_,_,_,_]) rfl rfl) ?_;rintro _ _ ⟨b1,rfl,rfl⟩;refine zz 5 ?_;refine O.op (.p rfl) (.build (cs:=[_,_,_,_,_]) underlying345 rfl rfl rfl rfl rfl)<|O.v0 (.p rfl) rfl zB rfl rfl (pright_c h) ?_;refine zz 2 ?_;exact S.rt results270 rfl hR ⟨rfl,rfl⟩
theorem tmust_c {r:Fr} (b:Bool) (z:Int):Con prog 268 #[.bool b,.int .i64 z] r [] (RetP (fun v η=>b=true∧v=.tuple #[]∧η=[]) (fun ch η=>b=false∧ch=errP 32 z∧η=[])):=by
 refine Con.o func268 fun g hg R hR=>?_;refine zz 3 ?_;refine O.op (.p rfl) ((by first|exact .notD rfl|exact .not rfl)) ?_;refine zz 1 ?_;refine S.cd rfl (fun h5=>?_) fun h5=>?_
 ·refine zz 2 ?_
  refine O.op (.p rfl) (.mkIface underlying32 rfl)<|O.panic rfl rfl (fun w hw=>?_);exact hR _ [] w ⟨by simpa using h5,rfl,rfl⟩ hw
 ·refine S.skip<|S.end0 results268 fun w hw=>hR _ _ w ?_ hw
  exact ⟨by simpa using h5,rfl,rfl⟩
theorem numbers_c {r:Fr} {va:Value} {l:List Int} (ha:Arr Rp.i64 r va l) (hl:l.length≤1000000000):Con prog 329 #[va] r [] (Ret fun v η=>∃ a c,v=.slice a (l.map be).flatten.length c∧η=[OwnP Rp.u8 5 (.slice a (l.map be).flatten.length c) (l.map be).flatten]):=by
 refine Con.o func329 fun g hg R hR=>?_;have ha:=ha.mono hg;obtain ⟨a1,c1,rfl⟩:=ha.shape;have hlen:∀ m:List Int,(m.map be).flatten.length=8*m.length:=by
  intro m
  induction m with
  |nil=>rfl
  |cons a m ih=>rw [List.map_cons,List.flatten_cons,List.length_append,ih,be_length,List.length_cons];omega
 refine S.addNil (T:=Rp.u8) (e:=5) ?_;refine zz 16 ?_;refine S.loopK2 (ι:=Nat) (κ:=Option Addr × Nat) (fun i p=>i≤l.length) (fun i p=>[(8,.int .i64 (i:Int)),(3,.slice p.1 ((l.take i).map be).flatten.length p.2)]) [(6,_),(7,_)] (fun i p=>[OwnP Rp.u8 5 (.slice p.1 ((l.take i).map be).flatten.length p.2) ((l.take i).map be).flatten]) (fun i p=>l.length - i) (0) ((none,0)) zG zq zq rfl fun i p hx ih=>?_;have hm1:=meltRefl (g:=g);refine zz 5 ?_;refine S.cd rfl (fun h9=>?_) fun h9=>?_
 ·have hi:i<l.length:=by omega
  have htk:((l.take i).map be).flatten++be l[i]=((l.take (i+1)).map be).flatten:=by rw [List.take_succ_eq_append_getElem hi,List.map_append,List.flatten_append];simp
  have hb:=hlen (l.take i);rw [List.length_take,Nat.min_eq_left hx] at hb;generalize ((l.take i).map be).flatten=so at htk hb ⊢;refine zz 5 ?_;refine O.ia (.p rfl) underlying25 size3 rfl rfl rfl zA (h:=fun p10 cs10 hp10 hr10=>?_);obtain ⟨rfl,hz10⟩:=hr10;refine zz 6 ?_;refine O.call0 (.p rfl) rfl zB rfl rfl (wNumber_c _) ?_;rintro _ _ ⟨a14,c14,rfl,rfl⟩;refine O.frzA zC fun g hs hm ha14=>?_;replace hg:=Fr.sub_trans hg hs;replace hR:=melted hR hm
  try replace hp10:=hp10.mono hs
  replace hm1:=meltTrans hm1 hm;clear hs hm;refine O.opE (.p rfl) (.appendP (T:=Rp.u8) pure_u8 underlying31 elem5 zE rfl rfl zC zA zH zH) ?_;rintro _ _ ⟨a15,c15,rfl,rfl⟩;refine zz 7 ?_;rw [← List.length_append,htk];exact S.melt hm1 (S.pw (ih (i+1) ((a15,c15)) zD zD))
 ·clear ih
  have hi:i=l.length:=by omega
  subst hi;rw [List.take_length];refine zz 6 ?_;exact S.rt results329 rfl hR ⟨p.1,p.2,rfl,rfl⟩
theorem ptext_c {r:Fr} {cs:List Value} {x:RootT} (h:RootRp.rel r cs x) (hs:rootShape x=true):Con prog 300 #[.agg cs.toArray] r [] (Ret fun v η=>∃ a c,v=.slice a (rootText x).length c∧η=[OwnP Rp.u8 5 (.slice a (rootText x).length c) (rootText x)]):=by
 have hl:=rootText_length hs;have hnum:([x.1,x.2.1,x.2.2.1].map be).flatten=be x.1++(be x.2.1++be x.2.2.1):=by simp
 have hfl:[[2],be x.1++(be x.2.1++be x.2.2.1),x.2.2.2.1].flatten=rootText x:=by simp [rootText]
 obtain ⟨xa3,xa4,xc3,xc4,rfl,k0,k1,k2,k3,k4⟩:=RootRp.sh h;refine Con.o func300 fun g hg R hR=>?_;have h:=h.mono hg;have k3:=k3.mono hg;refine S.seq<|S.region rfl<|O.opE (.p rfl) (.box (cs:=[_,_,_,_,_]) rfl rfl) ?_;rintro _ _ ⟨b1,rfl,rfl⟩;refine zz 3 ?_;refine S.frzO zC fun g hs hm hbx=>?_;replace hg:=Fr.sub_trans hg hs;replace hR:=melted hR hm
 try replace h:=h.mono hs
 try replace k3:=k3.mono hs
 clear hs hm;refine S.regionJ (L:=[1,2,3,4,5,6,7,8,9,12,13,14,0,10,11,15,16,17]) (fun (s:Option Addr × Nat)=>[(2,.slice s.1 (rootText x).length s.2)]) [] (fun (s:Option Addr × Nat)=>[OwnP Rp.u8 5 (.slice s.1 (rootText x).length s.2) (rootText x)]) (.nil) F.mixed zB (fun kk key=>?_) (fun s=>?_)
 ·refine zz 12 ?_
  refine OD.alt2 0 10 [10,11,15,16,17] [0,11,15,16,17] zB rfl rfl ?_ ?_
  ·refine ODt.litP (T:=Rp.u8) (ys:=[2]) (.p rfl) zB underlying31 elem5 zE rfl rfl ⟨rfl,trivial⟩ zE (fun a3 c3=>?_)
   refine OD.litP (T:=Rp.i64) (ys:=[_,_,_]) (.p rfl) zB underlying25 elem3 zE rfl rfl ⟨⟨rfl,by first|assumption|(constructor<;>omega)⟩,⟨rfl,by first|assumption|(constructor<;>omega)⟩,⟨rfl,by first|assumption|(constructor<;>omega)⟩,trivial⟩ zE (fun a13 c13=>?_);refine OD.callB (.p rfl) zB rfl zB rfl rfl (bs:=[OwnP Rp.i64 3 (.slice a13 3 c13) [x.1,x.2.1,x.2.2.1]]) zI (fun m hm hd=>numbers_c (hm.arr.right hd) zG) ?_;rintro _ _ ⟨a14,c14,rfl,rfl⟩;rw [hnum];refine OD.litP (T:=Rp.val) (ys:=[_,_,_]) (.p rfl) zB underlying39 elem31 zE rfl rfl ⟨⟨rfl,rfl⟩,⟨rfl,rfl⟩,⟨rfl,rfl⟩,trivial⟩ zE (fun a18 c18=>?_);refine OD.callB (.p rfl) zB rfl zB rfl rfl (bs:=[OwnP Rp.val 31 (.slice a18 3 c18) [.slice a3 1 c3,.slice a14 (be x.1++(be x.2.1++be x.2.2.1)).length c14,.slice xa3 x.2.2.2.1.length xc3],OwnP Rp.u8 5 (.slice a3 1 c3) [2],OwnP Rp.u8 5 (.slice a14 (be x.1++(be x.2.1++be x.2.2.1)).length c14) (be x.1++(be x.2.1++be x.2.2.1))]) zI (fun m hm hd=>wJoin_c (xss:=[[2],be x.1++(be x.2.1++be x.2.2.1),x.2.2.2.1]) ((hm.arr.right hd).rows ⟨hm.tail.arr.right hd,hm.tail.tail.arr.right hd,k3.left,trivial⟩) (by rw [hfl];omega)) ?_;rintro _ _ ⟨a19,c19,rfl,rfl⟩;rw [hfl];refine OD.q 1 rfl<|ODx.nil<|S.pk ?_ (S.weaken (Sub.app zq (.nil)) (key (a19,c19)))
   try dsimp only
   repeat (first|exact zpa|exact zpn|(apply zpc;focus (repeat (first|exact zh|apply zt)))|apply zps)
  ·refine ODt.litP (T:=Rp.i64) (ys:=[_,_,_]) (.p rfl) zB underlying25 elem3 zE rfl rfl ⟨⟨rfl,by first|assumption|(constructor<;>omega)⟩,⟨rfl,by first|assumption|(constructor<;>omega)⟩,⟨rfl,by first|assumption|(constructor<;>omega)⟩,trivial⟩ zE (fun a13 c13=>?_)
   refine OD.alt2 0 11 [11,15,16,17] [0,15,16,17] zB rfl rfl ?_ ?_
   ·refine ODt.litP (T:=Rp.u8) (ys:=[2]) (.p rfl) zB underlying31 elem5 zE rfl rfl ⟨rfl,trivial⟩ zE (fun a3 c3=>?_)
    refine OD.callB (.p rfl) zB rfl zB rfl rfl (bs:=[OwnP Rp.i64 3 (.slice a13 3 c13) [x.1,x.2.1,x.2.2.1]]) zI (fun m hm hd=>numbers_c (hm.arr.right hd) zG) ?_;rintro _ _ ⟨a14,c14,rfl,rfl⟩;rw [hnum];refine OD.litP (T:=Rp.val) (ys:=[_,_,_]) (.p rfl) zB underlying39 elem31 zE rfl rfl ⟨⟨rfl,rfl⟩,⟨rfl,rfl⟩,⟨rfl,rfl⟩,trivial⟩ zE (fun a18 c18=>?_);refine OD.callB (.p rfl) zB rfl zB rfl rfl (bs:=[OwnP Rp.val 31 (.slice a18 3 c18) [.slice a3 1 c3,.slice a14 (be x.1++(be x.2.1++be x.2.2.1)).length c14,.slice xa3 x.2.2.2.1.length xc3],OwnP Rp.u8 5 (.slice a3 1 c3) [2],OwnP Rp.u8 5 (.slice a14 (be x.1++(be x.2.1++be x.2.2.1)).length c14) (be x.1++(be x.2.1++be x.2.2.1))]) zI (fun m hm hd=>wJoin_c (xss:=[[2],be x.1++(be x.2.1++be x.2.2.1),x.2.2.2.1]) ((hm.arr.right hd).rows ⟨hm.tail.arr.right hd,hm.tail.tail.arr.right hd,k3.left,trivial⟩) (by rw [hfl];omega)) ?_;rintro _ _ ⟨a19,c19,rfl,rfl⟩;rw [hfl];refine OD.q 1 rfl<|ODx.nil<|S.pk ?_ (S.weaken (Sub.app zq (.nil)) (key (a19,c19)))
    try dsimp only
    repeat (first|exact zpa|exact zpn|(apply zpc;focus (repeat (first|exact zh|apply zt)))|apply zps)
   ·refine ODt.callB (.p rfl) zB rfl zB rfl rfl (bs:=[OwnP Rp.i64 3 (.slice a13 3 c13) [x.1,x.2.1,x.2.2.1]]) zI (fun m hm hd=>numbers_c (hm.arr.right hd) zG) ?_
    rintro _ _ ⟨a14,c14,rfl,rfl⟩;rw [hnum];refine OD.litP (T:=Rp.u8) (ys:=[2]) (.p rfl) zB underlying31 elem5 zE rfl rfl ⟨rfl,trivial⟩ zE (fun a3 c3=>?_);refine OD.litP (T:=Rp.val) (ys:=[_,_,_]) (.p rfl) zB underlying39 elem31 zE rfl rfl ⟨⟨rfl,rfl⟩,⟨rfl,rfl⟩,⟨rfl,rfl⟩,trivial⟩ zE (fun a18 c18=>?_);refine OD.callB (.p rfl) zB rfl zB rfl rfl (bs:=[OwnP Rp.val 31 (.slice a18 3 c18) [.slice a3 1 c3,.slice a14 (be x.1++(be x.2.1++be x.2.2.1)).length c14,.slice xa3 x.2.2.2.1.length xc3],OwnP Rp.u8 5 (.slice a3 1 c3) [2],OwnP Rp.u8 5 (.slice a14 (be x.1++(be x.2.1++be x.2.2.1)).length c14) (be x.1++(be x.2.1++be x.2.2.1))]) zI (fun m hm hd=>wJoin_c (xss:=[[2],be x.1++(be x.2.1++be x.2.2.1),x.2.2.2.1]) ((hm.arr.right hd).rows ⟨hm.tail.arr.right hd,hm.tail.tail.arr.right hd,k3.left,trivial⟩) (by rw [hfl];omega)) ?_;rintro _ _ ⟨a19,c19,rfl,rfl⟩;rw [hfl];refine OD.q 1 rfl<|ODx.nil<|S.pk ?_ (S.weaken (Sub.app zq (.nil)) (key (a19,c19)))
    try dsimp only
    repeat (first|exact zpa|exact zpn|(apply zpc;focus (repeat (first|exact zh|apply zt)))|apply zps)
 exact S.rt results300 rfl hR ⟨s.1,s.2,rfl,rfl⟩
theorem tput1_c {r:Fr} {b:Nat} {cs:List Value} {x:RootT} (hb:At r ⟨b,0,none⟩ cs) (h:RootRp.rel r cs x) :
  Con prog 298 (#[]++#[]++#[.pointer (some ⟨b,0,none⟩)]) r [] (RetP (fun v η=>rootOk x=true∧∃ a c,v=.slice a (rootB x).length c∧η=[OwnP Rp.u8 5 (.slice a (rootB x).length c) (rootB x)]) (fun ch η=>∃ z,ch=errP 32 z∧(rootOk x=false∧z=4)∧η=[])):=by
 obtain ⟨xa3,xa4,xc3,xc4,rfl,k0,k1,k2,k3,k4⟩:=RootRp.sh h;refine Con.of (n:=15) [.pointer (some ⟨b,0,none⟩)] rfl func298 rfl rfl rfl fun g hg R hR=>?_;have hb:=hb.mono hg;have h:=h.mono hg;have k4:=k4.mono hg
 cases e:rootOk x with
 |false =>
  refine zz 6 ?_;refine O.op (.p rfl) (.loadAgg isAgg52 zB rfl hb) ?_;refine O.op (.p rfl) (.build (cs:=[_,_,_,_,_]) underlying345 rfl rfl rfl rfl rfl)<|O.opE (.p rfl) (.alloc (cs:=[.int .i64 0,.int .i64 0,.int .i64 0,.slice none 0 0,.slice none 0 0]) zeroValue345 rfl) ?_;rintro _ _ ⟨b2,rfl,rfl⟩;refine zz 5 ?_;refine O.v0 (.p rfl) rfl zB rfl rfl (pright_c h) ?_;refine O.sF 6 rfl (by exact e) ?_;refine O.callP0 (.p rfl) rfl zB rfl rfl (tmust_c _ _) (fun ch η' w hX hW=>by (obtain ⟨hb,rfl,rfl⟩:=hX;exact hR _ _ w ⟨4,rfl,⟨e,rfl⟩,rfl⟩ hW.drop_all)) ?_;rintro _ _ ⟨hb7,rfl,rfl⟩;exact absurd hb7 zG
 |true =>
  have hl:=rootB_length e;have hfl:[rootText x,x.2.2.2.2.1].flatten=rootB x:=by simp [rootB]
  refine zz 6 ?_;refine O.op (.p rfl) (.loadAgg isAgg52 zB rfl hb) ?_;refine O.op (.p rfl) (.build (cs:=[_,_,_,_,_]) underlying345 rfl rfl rfl rfl rfl)<|O.opE (.p rfl) (.alloc (cs:=[.int .i64 0,.int .i64 0,.int .i64 0,.slice none 0 0,.slice none 0 0]) zeroValue345 rfl) ?_;rintro _ _ ⟨b2,rfl,rfl⟩;refine zz 5 ?_;refine O.v0 (.p rfl) rfl zB rfl rfl (pright_c h) ?_;refine O.sT 6 rfl (by exact e) ?_;refine O.callP0 (.p rfl) rfl zB rfl rfl (tmust_c _ _) (fun ch η' w hX hW=>by (exact absurd hX.1 zG)) ?_;rintro _ _ ⟨hb7,rfl,rfl⟩;refine O.nil<|S.seq<|S.frzO zC fun g hs hm hb2=>?_;replace hg:=Fr.sub_trans hg hs;replace hR:=melted hR hm
  try replace hb:=hb.mono hs
  try replace h:=h.mono hs
  try replace k4:=k4.mono hs
  clear hs hm;refine S.regionD (L:=[0,2,3,4,1,5,6,7]) F.mixed zB ?_;refine .quiet (.p rfl) rfl (fun _=>.loadAgg isAgg345 zB rfl hb2) ?_;refine zz 3 ?_;refine OD.call0 (.p rfl) zB rfl zB rfl rfl ((ptext_c h (rootOk_iff.1 e).1)) ?_;rintro _ _ ⟨a9,c9,rfl,rfl⟩;refine OD.litP (T:=Rp.val) (ys:=[_,_]) (.p rfl) zB underlying39 elem31 zE rfl rfl ⟨⟨rfl,rfl⟩,⟨rfl,rfl⟩,trivial⟩ zE (fun a13 c13=>?_);refine OD.callB (.p rfl) zB rfl zB rfl rfl (bs:=[OwnP Rp.val 31 (.slice a13 2 c13) [.slice a9 (rootText x).length c9,.slice xa4 x.2.2.2.2.1.length xc4],OwnP Rp.u8 5 (.slice a9 (rootText x).length c9) (rootText x)]) zI (fun m hm hd=>wJoin_c (xss:=[rootText x,x.2.2.2.2.1]) ((hm.arr.right hd).rows ⟨hm.tail.arr.right hd,k4.left,trivial⟩) (by rw [hfl];omega)) ?_;rintro _ _ ⟨a14,c14,rfl,rfl⟩;rw [hfl];refine zz 2 ?_;exact S.rt results298 rfl hR ⟨e,a14,c14,rfl,rfl⟩
theorem tTried_c {r:Fr} {first cap:Array Value} {x:RootT} (con:Con prog 298 (first++#[]++cap) r [] (RetP (fun v η=>rootOk x=true∧∃ a c,v=.slice a (rootB x).length c∧η=[OwnP Rp.u8 5 (.slice a (rootB x).length c) (rootB x)]) (fun ch η=>∃ z,ch=errP 32 z∧(rootOk x=false∧z=4)∧η=[]))) (h1:(Value.func (.func 298) first cap).oneCell' =true:=by rfl) :
  Con prog 297 #[.func (.func 298) first cap] r [] (Ret fun v η=>∃ a c,v=.tuple #[.slice a (rootOut x).length c,.int .i64 (rootErr x)]∧η=[OwnP Rp.u8 5 (.slice a (rootOut x).length c) (rootOut x)]) :=
 (triedRB_c zB h1 (fun _ _ h=>by obtain ⟨_,_,_,rfl,_⟩:=h;rfl) con).post fun e η h w g hw=>by
  cases e with
  |returned v =>
   rcases h with ⟨u,⟨hs,a,c,rfl,rfl⟩,rfl⟩|⟨z,⟨hs,rfl⟩,rfl,rfl⟩
   ·exact ⟨_,⟨a,c,by simp [rootOut,rootErr,hs],rfl⟩,by simpa [rootOut,hs] using hw⟩
   ·exact ⟨_,⟨none,0,by simp [rootOut,rootErr,hs],rfl⟩,by simp only [rootOut,hs];exact hw.imp fun m x=>⟨Fr.emp,m,Fr.emp_disj _,Fr.emp_sub _,Fr.sub_refl _,ownP_nil _,x⟩⟩
  |panicked _=>exact h.elim
  |outgrown=>exact h.elim
theorem tPut_c {r:Fr} {cs:List Value} {x:RootT} (h:RootRp.rel r cs x) :
  Con prog 238 #[.agg cs.toArray] r [] (Ret fun v η=>∃ a c,v=.tuple #[.slice a (rootOut x).length c,.int .i64 (rootErr x)]∧η=[OwnP Rp.u8 5 (.slice a (rootOut x).length c) (rootOut x)]):=by
 obtain ⟨xa3,xa4,xc3,xc4,rfl,k0,k1,k2,k3,k4⟩:=RootRp.sh h;refine Con.o func238 fun g hg R hR=>?_;have h:=h.mono hg;refine S.seq<|S.region rfl<|O.opE (.p rfl) (.box (cs:=[_,_,_,_,_]) rfl rfl) ?_;rintro _ _ ⟨b1,rfl,rfl⟩;refine zz 4 ?_;refine S.frzO zC fun g hs hm hb1=>?_;replace hg:=Fr.sub_trans hg hs;replace hR:=melted hR hm
 try replace h:=h.mono hs
 clear hs hm;refine zz 2 ?_;refine O.call0 (.p rfl) rfl zB rfl rfl ((tTried_c (tput1_c hb1 h))) ?_;rintro _ _ ⟨a5,c5,rfl,rfl⟩;refine O.q 4 rfl<|O.nil<|S.ret2 results238 rfl rfl fun w hw=>Holds.end_ hR hw ?_;exact pk ⟨a5,c5,rfl,rfl⟩
theorem indexRoot_c {r:Fr} {va:Value} {xs:List RootT} {f:FuncId} {first cap:Array Value} (ha:Arr RootRp r va xs) (hc:callable prog f=true) (q:RootT→Bool)
  (con:∀ cs x,x∈xs→RootRp.rel r cs x→Con prog f (first++#[.agg cs.toArray]++cap) r [] (Ret fun v η=>v=.bool (q x)∧η=[])) :
  Con prog 339 #[va,.func (.func f) first cap] r [] (Ret fun v η=>∃ k:Int,v=.int .i64 k∧(0≤k↔xs.any q=true)∧η=[]):=by
 have har:=ha;refine Con.of (n:=19) [va,.func (.func f) first cap] rfl func339 rfl rfl rfl fun g hg R hR=>?_;have ha:=ha.mono hg;have hbd:=ha.bound;obtain ⟨a1,c1,rfl⟩:=ha.shape;refine zz 12 ?_;refine S.loopK (ι:=Nat) (fun i=>i≤xs.length∧(xs.take i).any q=false) (fun i=>[(8,.int .i64 (i:Int))]) [(0,_),(1,_),(7,_)] (fun i=>[]) (fun i=>xs.length - i) (0) zb25 zq zq rfl fun i hx ih=>?_;have hm1:=meltRefl (g:=g);obtain ⟨hx1,hx2⟩:=hx;refine zz 5 ?_;refine S.cd rfl (fun h9=>?_) fun h9=>?_
 ·have hi:i<xs.length:=by omega
  cases e:q xs[i] with
  |true =>
   have hy:xs.any q=true:=List.any_eq_true.2 ⟨xs[i],List.getElem_mem hi,e⟩;clear ih;refine zz 13 ?_;refine O.iy har hg (h:=fun p14 cs14 hp14 hrr14=>?_);have hr14:=Rp.rel.mono hrr14 hg;obtain ⟨ta3_14,ta4_14,tc3_14,tc4_14,rfl,ho0_14,ho1_14,ho2_14,ha3_14,ha4_14⟩:=RootRp.sh hr14;refine O.op (.p rfl) (.loadAgg isAgg52 zB rfl hp14) ?_;refine O.v0 (.p rfl) rfl hc rfl rfl (((con _ _ (List.getElem_mem hi) hrr14).sub hg)) ?_;refine O.sT 16 rfl (by exact e) ?_;refine zz 7 ?_;exact S.rt results339 rfl hR ⟨(i:Int),rfl,⟨fun _=>hy,fun _=>by omega⟩,rfl⟩
  |false =>
   refine zz 13 ?_;refine O.iy har hg (h:=fun p14 cs14 hp14 hrr14=>?_);have hr14:=Rp.rel.mono hrr14 hg;obtain ⟨ta3_14,ta4_14,tc3_14,tc4_14,rfl,ho0_14,ho1_14,ho2_14,ha3_14,ha4_14⟩:=RootRp.sh hr14;refine O.op (.p rfl) (.loadAgg isAgg52 zB rfl hp14) ?_;refine O.v0 (.p rfl) rfl hc rfl rfl (((con _ _ (List.getElem_mem hi) hrr14).sub hg)) ?_;refine O.sF 16 rfl (by exact e) ?_;refine zz 8 ?_;exact S.wk (ih (i+1) (by exact ⟨by omega,by rw [List.take_succ_eq_append_getElem hi,List.any_append,hx2];simp [e]⟩) zD)
 ·clear ih
  have hi:i=xs.length:=by omega
  subst hi;rw [List.take_length] at hx2;refine zz 5 ?_;exact S.rt results339 rfl hR ⟨-1,rfl,⟨fun h=>absurd h zE,fun h=>by rw [hx2] at h;cases h⟩,rfl⟩
theorem containsRoot_c {r:Fr} {va:Value} {xs:List RootT} {f:FuncId} {first cap:Array Value} (ha:Arr RootRp r va xs) (hc:callable prog f=true) (q:RootT→Bool)
  (con:∀ cs x,x∈xs→RootRp.rel r cs x→Con prog f (first++#[.agg cs.toArray]++cap) r [] (Ret fun v η=>v=.bool (q x)∧η=[])) (h1:(Value.func (.func f) first cap).oneCell' =true) :
  Con prog 336 #[va,.func (.func f) first cap] r [] (Ret fun v η=>v=.bool (xs.any q)∧η=[]):=by
 refine Con.of (n:=9) [va,.func (.func f) first cap] rfl func336 rfl rfl rfl fun g hg R hR=>?_;refine zz 8 ?_;refine O.call0 (.p rfl) rfl zB rfl rfl (((indexRoot_c ha hc q con).sub hg)) ?_;rintro v7 _ ⟨k7,rfl,hk7,rfl⟩;refine zz 3 ?_;exact S.rt results336 rfl hR ⟨congrArg _ (by rw [Bool.eq_iff_iff,decide_eq_true_iff];exact hk7),rfl⟩
theorem all1_c {r:Fr} {b:Nat} {cs:List Value} {x:RootT} (hb:At r ⟨b,0,none⟩ [.func (.func 270) #[] #[]]) (h:RootRp.rel r cs x) :
  Con prog 337 (#[]++#[.agg cs.toArray]++#[.pointer (some ⟨b,0,none⟩)]) r [] (Ret fun v η=>v=.bool (!rootOk x)∧η=[]):=by
 obtain ⟨xa3,xa4,xc3,xc4,rfl,k0,k1,k2,k3,k4⟩:=RootRp.sh h;refine Con.of (n:=8) [.agg #[.int .i64 x.1,.int .i64 x.2.1,.int .i64 x.2.2.1,.slice xa3 x.2.2.2.1.length xc3,.slice xa4 x.2.2.2.2.1.length xc4],.pointer (some ⟨b,0,none⟩)] rfl func337 rfl rfl rfl fun g hg R hR=>?_;have h:=h.mono hg;have hb:=hb.mono hg;refine S.seq<|S.region rfl<|O.opE (.p rfl) (.box (cs:=[_,_,_,_,_]) rfl rfl) ?_;rintro _ _ ⟨b2,rfl,rfl⟩;refine zz 6 ?_;refine O.v0 (.p rfl) rfl zB rfl rfl (tRight_c h) ?_;refine zz 3 ?_;exact S.rt results337 rfl hR ⟨rfl,rfl⟩
theorem eall_c {r:Fr} {va:Value} {l:List RootT} (ha:Arr RootRp r va l) :
  Con prog 330 #[.func (.func 270) #[] #[],va] r [] (Ret fun v η=>v=.bool (l.all rootOk)∧η=[]):=by
 refine Con.o func330 fun g hg R hR=>?_;have ha:=ha.mono hg;obtain ⟨a1,c1,rfl⟩:=ha.shape;refine S.seq<|S.region rfl<|O.opE (.p rfl) (.box (cs:=[_]) rfl rfl) ?_;rintro _ _ ⟨b2,rfl,rfl⟩;refine zz 3 ?_;refine S.frzO zC fun g hs hm hb2=>?_;replace hg:=Fr.sub_trans hg hs;replace hR:=melted hR hm
 try replace ha:=ha.mono hs
 clear hs hm;refine zz 3 ?_;refine O.v0 (.p rfl) rfl zB rfl rfl ((containsRoot_c ha zB (fun x=>!rootOk x) (fun cs x _ h=>all1_c hb2 h) rfl)) ?_;refine zz 3 ?_;exact S.rt results330 rfl hR ⟨by rw [List.all_eq_not_any_not],rfl⟩
theorem bcompare_c {r:Fr} {va vb:Value} {xs ys:List UInt8} (ha:Arr Rp.u8 r va xs) (hb:Arr Rp.u8 r vb ys):Con prog 209 #[va,vb] r [] (Ret fun v η=>v=.int .i64 (Lib.compareBytes xs ys)∧η=[]):=by
 refine Con.o func209 fun g hg R hR=>?_;have ha:=ha.mono hg;have hb:=hb.mono hg;obtain ⟨a1,c1,rfl⟩:=ha.shape;obtain ⟨a2,c2,rfl⟩:=hb.shape;refine zz 8 ?_;refine O.op (.p rfl) (.compareExt func282 zB rfl zB zB rfl rfl rfl ha hb) ?_;refine zz 2 ?_;exact S.rt results209 rfl hR ⟨rfl,rfl⟩
theorem pairOf_c {r:Fr} {cs:List Value} {e:EvdT} (h:EvdRp.rel r cs e):Con prog 306 #[.agg cs.toArray] r [] (Ret fun v η=>v=.agg cs.toArray∧η=[]):=by
 obtain ⟨xa3,xa4,xa8,xa9,xc3,xc4,xc8,xc9,rfl,_⟩:=EvdRp.sh h;refine Con.o func306 fun g hg R hR=>?_;refine S.seq<|S.region rfl<|O.opE (.p rfl) (.box (cs:=[_,_,_,_,_,_,_,_,_,_]) rfl rfl) ?_;rintro _ _ ⟨b1,rfl,rfl⟩;refine O.opE (.p rfl) (.alloc (cs:=[.int .i64 0,.int .i64 0,.int .i64 0,.slice none 0 0,.slice none 0 0,.int .i64 0,.int .i64 0,.int .i64 0,.slice none 0 0,.slice none 0 0]) zeroValue351 rfl) ?_;rintro _ _ ⟨b2,rfl,rfl⟩;refine zz 7 ?_;refine O.op (.p rfl) (.build (cs:=[_,_,_,_,_,_,_,_,_,_]) underlying351 rfl rfl rfl rfl rfl) ?_;refine zz 1 ?_;refine O.nil<|S.retCellAgg results306 isAgg351 zB rfl zC fun w hw=>Holds.end_ hR hw ?_;exact pk ⟨rfl,rfl⟩
theorem EvdRp.two {h:Fr} {e:EvdT} {a3 a4 a8 a9:Option Addr} {c3 c4 c8 c9:Nat} (r:EvdRp.rel h [.int .i64 e.1.1,.int .i64 e.1.2.1,.int .i64 e.1.2.2.1,.slice a3 e.1.2.2.2.1.length c3,.slice a4 e.1.2.2.2.2.1.length c4,.int .i64 e.2.1.1,.int .i64 e.2.1.2.1,.int .i64 e.2.1.2.2.1,.slice a8 e.2.1.2.2.2.1.length c8,.slice a9 e.2.1.2.2.2.2.1.length c9] e) :
  RootRp.rel h [.int .i64 e.1.1,.int .i64 e.1.2.1,.int .i64 e.1.2.2.1,.slice a3 e.1.2.2.2.1.length c3,.slice a4 e.1.2.2.2.2.1.length c4] e.1∧RootRp.rel h [.int .i64 e.2.1.1,.int .i64 e.2.1.2.1,.int .i64 e.2.1.2.2.1,.slice a8 e.2.1.2.2.2.1.length c8,.slice a9 e.2.1.2.2.2.2.1.length c9] e.2.1:=by
 obtain ⟨v3,v4,v8,v9,hc,h0,h1,h2,h3,h4,h5,h6,h7,h8,h9⟩:=EvdRp.open r
 injection hc with _ hc;injection hc with _ hc;injection hc with _ hc;injection hc with e3 hc;injection hc with e4 hc
 injection hc with _ hc;injection hc with _ hc;injection hc with _ hc;injection hc with e8 hc;injection hc with e9 hc
 subst e3 e4 e8 e9;exact ⟨RootRp.mk h0 h1 h2 h3 h4,RootRp.mk h5 h6 h7 h8 h9⟩
theorem eorder_c {r:Fr} {cs:List Value} {e:EvdT} (h:EvdRp.rel r cs e):Con prog 307 #[.agg cs.toArray] r [] (Ret fun v η=>v=.int .i64 (evOrder e.1 e.2.1)∧η=[]):=by
 obtain ⟨xa3,xa4,xa8,xa9,xc3,xc4,xc8,xc9,rfl,_,_,_,k3,_,_,_,_,k8,_⟩:=EvdRp.sh h;obtain ⟨h1,h2⟩:=EvdRp.two h;refine Con.o func307 fun g hg R hR=>?_;have h1:=h1.mono hg;have h2:=h2.mono hg;have k3:=k3.mono hg;have k8:=k8.mono hg;refine S.seq<|S.region rfl<|O.opE (.p rfl) (.box (cs:=[_,_,_,_,_,_,_,_,_,_]) rfl rfl) ?_;rintro _ _ ⟨b1,rfl,rfl⟩;refine zz 6 ?_;refine O.opE (.p rfl) (.alloc (cs:=[.int .i64 0,.int .i64 0,.int .i64 0,.slice none 0 0,.slice none 0 0]) zeroValue52 rfl) ?_;rintro _ _ ⟨b3,rfl,rfl⟩;refine zz 1 ?_;refine O.nil<|S.seq<|S.seq<|S.objIs (b:=b3) (cs' :=[.int .i64 e.2.1.1,.int .i64 e.2.1.2.1,.int .i64 e.2.1.2.2.1,.slice xa8 e.2.1.2.2.2.1.length xc8,.slice xa9 e.2.1.2.2.2.2.1.length xc9]) zC rfl ?_
 cases ea:[e.1,e.2.1].all rootOk with
 |false =>
  have e0:evOrder e.1 e.2.1=0:=if_neg fun q=>by
   simp only [List.all_cons,q.1,q.2.1,List.all_nil] at ea
   cases ea
  refine zz 4 ?_;refine O.opE (.p rfl) (.litP (T:=(Rp.cells 5)) (ys:=[_,_]) underlying23 elem52 zE rfl rfl ⟨⟨rfl,rfl,by first|(simp;done)|(intro v hv;simp [Value.cells] at hv;rcases hv with rfl|rfl<;>rfl)|(refine List.forall_mem_cons.2 ⟨rfl,?_⟩;repeat (first|exact (fun _ h=>absurd h List.not_mem_nil)|refine List.forall_mem_cons.2 ⟨rfl,?_⟩))⟩,⟨rfl,rfl,by first|(simp;done)|(intro v hv;simp [Value.cells] at hv;rcases hv with rfl|rfl<;>rfl)|(refine List.forall_mem_cons.2 ⟨rfl,?_⟩;repeat (first|exact (fun _ h=>absurd h List.not_mem_nil)|refine List.forall_mem_cons.2 ⟨rfl,?_⟩))⟩,trivial⟩ zE) ?_;rintro _ _ ⟨a9,c9,rfl,rfl⟩;refine O.frzA zC fun g hs hm ha9=>?_;replace hg:=Fr.sub_trans hg hs;replace hR:=melted hR hm
  try replace h1:=h1.mono hs
  try replace h2:=h2.mono hs
  try replace k3:=k3.mono hs
  try replace k8:=k8.mono hs
  clear hs hm;refine O.v0 (.p rfl) rfl zB rfl rfl ((eall_c (l:=[e.1,e.2.1]) (Arr.ofCells ha9 ⟨h1,h2,trivial⟩ rfl))) ?_;refine O.sF 10 rfl (by exact ea) ?_;refine zz 31 ?_;exact S.rt results307 rfl hR ⟨by rw [e0],rfl⟩
 |true =>
  have e1:rootOk e.1=true∧rootOk e.2.1=true:=by simpa using ea
  refine zz 4 ?_;refine O.opE (.p rfl) (.litP (T:=(Rp.cells 5)) (ys:=[_,_]) underlying23 elem52 zE rfl rfl ⟨⟨rfl,rfl,by first|(simp;done)|(intro v hv;simp [Value.cells] at hv;rcases hv with rfl|rfl<;>rfl)|(refine List.forall_mem_cons.2 ⟨rfl,?_⟩;repeat (first|exact (fun _ h=>absurd h List.not_mem_nil)|refine List.forall_mem_cons.2 ⟨rfl,?_⟩))⟩,⟨rfl,rfl,by first|(simp;done)|(intro v hv;simp [Value.cells] at hv;rcases hv with rfl|rfl<;>rfl)|(refine List.forall_mem_cons.2 ⟨rfl,?_⟩;repeat (first|exact (fun _ h=>absurd h List.not_mem_nil)|refine List.forall_mem_cons.2 ⟨rfl,?_⟩))⟩,trivial⟩ zE) ?_;rintro _ _ ⟨a9,c9,rfl,rfl⟩;refine O.frzA zC fun g hs hm ha9=>?_;replace hg:=Fr.sub_trans hg hs;replace hR:=melted hR hm
  try replace h1:=h1.mono hs
  try replace h2:=h2.mono hs
  try replace k3:=k3.mono hs
  try replace k8:=k8.mono hs
  clear hs hm;refine O.v0 (.p rfl) rfl zB rfl rfl ((eall_c (l:=[e.1,e.2.1]) (Arr.ofCells ha9 ⟨h1,h2,trivial⟩ rfl))) ?_;refine O.sT 10 rfl (by exact ea) ?_;refine zz 10 ?_
  first|refine O.caseD 20 rfl (fun h20=>?_) (fun h20=>?_)|refine O.caseB 20 rfl (fun h20=>?_) (fun h20=>?_)
  ·refine zz 21 ?_
   refine S.ret results307 rfl fun w hw=>Holds.end_ hR hw ?_
   first|exact ⟨_,⟨by simp only [evOrder];rw [if_neg (fun q=>absurd q.2.2.1 zF)],rfl⟩,by repeat (first|exact zpa|exact zpn|(apply zpc;focus (repeat (first|exact zh|apply zt)))|apply zps)⟩|exact ⟨_,⟨by simp only [evOrder];rw [if_neg (fun q=>absurd q.2.2.2.1 zF)],rfl⟩,by repeat (first|exact zpa|exact zpn|(apply zpc;focus (repeat (first|exact zh|apply zt)))|apply zps)⟩|exact ⟨_,⟨by simp only [evOrder];rw [if_neg (fun q=>absurd q.2.2.2.2 zF)],rfl⟩,by repeat (first|exact zpa|exact zpn|(apply zpc;focus (repeat (first|exact zh|apply zt)))|apply zps)⟩|exact ⟨_,⟨by simp only [evOrder];rw [if_pos ⟨e1.1,e1.2,Classical.not_not.1 zF,Classical.not_not.1 zF,Classical.not_not.1 zF⟩],rfl⟩,by repeat (first|exact zpa|exact zpn|(apply zpc;focus (repeat (first|exact zh|apply zt)))|apply zps)⟩
  ·refine zz 8 ?_
   first|refine O.caseD 28 rfl (fun h28=>?_) (fun h28=>?_)|refine O.caseB 28 rfl (fun h28=>?_) (fun h28=>?_)
   ·refine zz 13 ?_
    refine S.ret results307 rfl fun w hw=>Holds.end_ hR hw ?_
    first|exact ⟨_,⟨by simp only [evOrder];rw [if_neg (fun q=>absurd q.2.2.1 zF)],rfl⟩,by repeat (first|exact zpa|exact zpn|(apply zpc;focus (repeat (first|exact zh|apply zt)))|apply zps)⟩|exact ⟨_,⟨by simp only [evOrder];rw [if_neg (fun q=>absurd q.2.2.2.1 zF)],rfl⟩,by repeat (first|exact zpa|exact zpn|(apply zpc;focus (repeat (first|exact zh|apply zt)))|apply zps)⟩|exact ⟨_,⟨by simp only [evOrder];rw [if_neg (fun q=>absurd q.2.2.2.2 zF)],rfl⟩,by repeat (first|exact zpa|exact zpn|(apply zpc;focus (repeat (first|exact zh|apply zt)))|apply zps)⟩|exact ⟨_,⟨by simp only [evOrder];rw [if_pos ⟨e1.1,e1.2,Classical.not_not.1 zF,Classical.not_not.1 zF,Classical.not_not.1 zF⟩],rfl⟩,by repeat (first|exact zpa|exact zpn|(apply zpc;focus (repeat (first|exact zh|apply zt)))|apply zps)⟩
   ·refine zz 8 ?_
    refine S.cd rfl (fun h35=>?_) fun h35=>?_
    ·refine zz 4 ?_
     refine S.ret results307 rfl fun w hw=>Holds.end_ hR hw ?_
     first|exact ⟨_,⟨by simp only [evOrder];rw [if_neg (fun q=>absurd q.2.2.1 zF)],rfl⟩,by repeat (first|exact zpa|exact zpn|(apply zpc;focus (repeat (first|exact zh|apply zt)))|apply zps)⟩|exact ⟨_,⟨by simp only [evOrder];rw [if_neg (fun q=>absurd q.2.2.2.1 zF)],rfl⟩,by repeat (first|exact zpa|exact zpn|(apply zpc;focus (repeat (first|exact zh|apply zt)))|apply zps)⟩|exact ⟨_,⟨by simp only [evOrder];rw [if_neg (fun q=>absurd q.2.2.2.2 zF)],rfl⟩,by repeat (first|exact zpa|exact zpn|(apply zpc;focus (repeat (first|exact zh|apply zt)))|apply zps)⟩|exact ⟨_,⟨by simp only [evOrder];rw [if_pos ⟨e1.1,e1.2,Classical.not_not.1 zF,Classical.not_not.1 zF,Classical.not_not.1 zF⟩],rfl⟩,by repeat (first|exact zpa|exact zpn|(apply zpc;focus (repeat (first|exact zh|apply zt)))|apply zps)⟩
    ·refine zz 8 ?_
     refine O.v0 (.p rfl) rfl zB rfl rfl (bcompare_c zA zA) ?_;refine O.q 1 rfl<|O.nil<|S.ret results307 rfl fun w hw=>Holds.end_ hR hw ?_
     first|exact ⟨_,⟨by simp only [evOrder];rw [if_neg (fun q=>absurd q.2.2.1 zF)],rfl⟩,by repeat (first|exact zpa|exact zpn|(apply zpc;focus (repeat (first|exact zh|apply zt)))|apply zps)⟩|exact ⟨_,⟨by simp only [evOrder];rw [if_neg (fun q=>absurd q.2.2.2.1 zF)],rfl⟩,by repeat (first|exact zpa|exact zpn|(apply zpc;focus (repeat (first|exact zh|apply zt)))|apply zps)⟩|exact ⟨_,⟨by simp only [evOrder];rw [if_neg (fun q=>absurd q.2.2.2.2 zF)],rfl⟩,by repeat (first|exact zpa|exact zpn|(apply zpc;focus (repeat (first|exact zh|apply zt)))|apply zps)⟩|exact ⟨_,⟨by simp only [evOrder];rw [if_pos ⟨e1.1,e1.2,Classical.not_not.1 zF,Classical.not_not.1 zF,Classical.not_not.1 zF⟩],rfl⟩,by repeat (first|exact zpa|exact zpn|(apply zpc;focus (repeat (first|exact zh|apply zt)))|apply zps)⟩
theorem eRight_c {r:Fr} {cs:List Value} {e:EvdT} (h:EvdRp.rel r cs e):Con prog 271 #[.agg cs.toArray] r [] (Ret fun v η=>v=.bool (evdOk e)∧η=[]):=by
 obtain ⟨xa3,xa4,xa8,xa9,xc3,xc4,xc8,xc9,rfl,_⟩:=EvdRp.sh h;refine Con.o func271 fun g hg R hR=>?_;have h:=h.mono hg;refine S.seq<|S.region rfl<|O.opE (.p rfl) (.box (cs:=[_,_,_,_,_,_,_,_,_,_]) rfl rfl) ?_;rintro _ _ ⟨b1,rfl,rfl⟩;refine zz 5 ?_;refine O.v0 (.p rfl) rfl zB rfl rfl (pairOf_c h) ?_;refine O.v0 (.p rfl) rfl zB rfl rfl (eorder_c h) ?_;refine zz 3 ?_;exact S.rt results271 rfl hR ⟨rfl,rfl⟩
theorem ePut_c {r:Fr} {cs:List Value} {e:EvdT} (h:EvdRp.rel r cs e) :
  Con prog 239 #[.agg cs.toArray] r [] (Ret fun v η=>∃ a c,v=.tuple #[.slice a (evdOut e).length c,.int .i64 (evdErr e)]∧η=[OwnP Rp.u8 5 (.slice a (evdOut e).length c) (evdOut e)]):=by
 obtain ⟨xa3,xa4,xa8,xa9,xc3,xc4,xc8,xc9,rfl,_⟩:=EvdRp.sh h;obtain ⟨h1,h2⟩:=EvdRp.two h;refine Con.o func239 fun g hg R hR=>?_;have h:=h.mono hg;have h1:=h1.mono hg;have h2:=h2.mono hg
 cases eo:evdOk e with
 |false =>
  have e1:evdOut e=[]:=by simp [evdOut,eo]
  have e2:evdErr e=4:=by simp [evdErr,eo]
  rw [e1,e2] at hR;refine S.seq<|S.region rfl<|O.opE (.p rfl) (.box (cs:=[_,_,_,_,_,_,_,_,_,_]) rfl rfl) ?_;rintro _ _ ⟨b1,rfl,rfl⟩;refine zz 7 ?_;refine O.v0 (.p rfl) rfl zB rfl rfl (eRight_c h) ?_;refine O.sF 9 rfl (by exact eo) ?_;refine zz 8 ?_;refine S.addNil (T:=Rp.u8) (e:=5) ?_;refine S.ret2 results239 rfl rfl fun w hw=>Holds.end_ hR hw ?_;exact pk ⟨none,0,rfl,rfl⟩
 |true =>
  have e1:evdOut e=evdB e:=by simp [evdOut,eo]
  have e2:evdErr e=0:=by simp [evdErr,eo]
  have ho:=evdOk_iff.1 eo;have o1:rootOut e.1=rootB e.1:=by simp [rootOut,ho.1]
  have o2:rootOut e.2.1=rootB e.2.1:=by simp [rootOut,ho.2.1]
  have l1:=rootB_length ho.1;have l2:=rootB_length ho.2.1;have hl:=evdB_length eo;have hfl:[bytesOf (rootB e.1),bytesOf (rootB e.2.1)].flatten=evdB e:=by simp [evdB]
  rw [e1,e2] at hR;refine S.seq<|S.region rfl<|O.opE (.p rfl) (.box (cs:=[_,_,_,_,_,_,_,_,_,_]) rfl rfl) ?_;rintro _ _ ⟨b1,rfl,rfl⟩;refine zz 7 ?_;refine O.v0 (.p rfl) rfl zB rfl rfl (eRight_c h) ?_;refine O.sT 9 rfl (by exact eo) ?_;refine zz 8 ?_;refine O.call0 (.p rfl) rfl zB rfl rfl (tPut_c h1) ?_;rintro _ _ ⟨a14,c14,rfl,rfl⟩;rw [o1];refine zz 10 ?_;refine O.call0 (.p rfl) rfl zB rfl rfl (tPut_c h2) ?_;rintro _ _ ⟨a20,c20,rfl,rfl⟩;rw [o2];refine zz 7 ?_;refine S.frzA zC fun g hs hm hone=>?_;replace hg:=Fr.sub_trans hg hs;replace hR:=melted hR hm
  try replace h:=h.mono hs
  try replace h1:=h1.mono hs
  try replace h2:=h2.mono hs
  clear hs hm;refine S.frzA zC fun g hs hm htwo=>?_;replace hg:=Fr.sub_trans hg hs;replace hR:=melted hR hm
  try replace h:=h.mono hs
  try replace h1:=h1.mono hs
  try replace h2:=h2.mono hs
  try replace hone:=hone.mono hs
  clear hs hm;refine zz 2 ?_;refine O.call0 (.p rfl) rfl zB rfl rfl (wBytes_c zA zH) ?_;rintro _ _ ⟨a24,c24,rfl,rfl⟩;refine O.q 1 rfl<|O.call0 (.p rfl) rfl zB rfl rfl (wBytes_c zA zH) ?_;rintro _ _ ⟨a26,c26,rfl,rfl⟩;refine O.opE (.p rfl) (.litP (T:=Rp.val) (ys:=[_,_]) underlying39 elem31 zE rfl rfl ⟨⟨rfl,rfl⟩,⟨rfl,rfl⟩,trivial⟩ zE) ?_;rintro _ _ ⟨a27,c27,rfl,rfl⟩;refine O.callB (.p rfl) rfl zB rfl rfl (bs:=[OwnP Rp.val 31 (.slice a27 2 c27) [.slice a24 (bytesOf (rootB e.1)).length c24,.slice a26 (bytesOf (rootB e.2.1)).length c26],OwnP Rp.u8 5 (.slice a24 (bytesOf (rootB e.1)).length c24) (bytesOf (rootB e.1)),OwnP Rp.u8 5 (.slice a26 (bytesOf (rootB e.2.1)).length c26) (bytesOf (rootB e.2.1))]) zI (fun m hm hd=>wJoin_c (xss:=[bytesOf (rootB e.1),bytesOf (rootB e.2.1)]) ((hm.arr.right hd).rows ⟨hm.tail.arr.right hd,hm.tail.tail.arr.right hd,trivial⟩) (by rw [hfl];omega)) ?_;rintro _ _ ⟨a28,c28,rfl,rfl⟩;rw [hfl];refine O.q 2 rfl<|O.nil<|S.ret2 results239 rfl rfl fun w hw=>Holds.end_ hR hw ?_;exact pk ⟨a28,c28,rfl,rfl⟩
end Go.Proofs.YtodhbhanmdfdeaaGreat
