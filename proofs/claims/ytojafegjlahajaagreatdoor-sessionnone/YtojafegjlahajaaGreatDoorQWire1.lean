/- Texts of this proof. -/
import Derived.Test.YtojafegjlahajaaGreatDoorQFi
import Derived.Test.YtojafegjlahajaaGreatDoorQSpMapK
open Go Go.Sp Go.Proofs.Tryz
set_option maxRecDepth 100000
set_option maxHeartbeats 1000000
attribute [local irreducible] obj Own OwnP
namespace Go.Proofs.YtojafegjlahajaaGreatDoor
theorem set_be (n:Int) (i:Nat) (h:i<8):(List.replicate (8 - i) (0:UInt8)++(be n).drop (8 - i)).set (7 - i) (beAt n i)=List.replicate (8 - (i+1)) 0++(be n).drop (8 - (i+1)):=by
 match i,h with
 |0,_|1,_|2,_|3,_|4,_|5,_|6,_|7,_=>rfl
theorem wNumber_c {r:Fr} (n:Int):Con prog 147 #[.int .i64 n] r [] (Ret fun v η=>∃ a c,v=.slice a 8 c∧η=[OwnP Rp.u8 5 v (be n)]):=by
 refine Con.o func147 fun g hg R hR=>?_;refine zz 6 ?_;refine O.opE (.p rfl) (.makeP (T:=Rp.u8) (0:UInt8) (m:=8) underlying24 elem5 zE rfl rfl rfl rfl rfl zE zE) ?_;rintro _ _ ⟨a,c,rfl,rfl⟩;refine zz 10 ?_;refine S.loopK (ι:=Nat) (fun i=>i≤8) (fun i=>[(8,.int .i64 (i:Int))]) [(0,_),(3,_),(7,_)] (fun i=>[OwnP Rp.u8 5 (.slice a 8 c) (List.replicate (8 - i) 0++(be n).drop (8 - i))]) (fun i=>8 - i) (0) zH zq zq rfl fun i hx ih=>?_;have hm1:=meltRefl (g:=g);refine zz 5 ?_;refine S.cd rfl (fun h9=>?_) fun h9=>?_
 ·refine zz 11 ?_
  refine O.op (.p rfl) (.sub rfl rfl (IntWalk.i64_in _ zB))<|zz 1 ?_;refine O.op (.p rfl) (.cvt underlying3 underlying274 rfl)<|zz 1 ?_;refine O.op (.p rfl) (.mul rfl rfl (IntWalk.i64_in _ zB))<|O.op (.p rfl) (.shr rfl rfl zB)<|O.op (.p rfl) (.cvt underlying274 underlying5 rfl)<|O.opE (.p rfl) (.idxOwn (T:=Rp.u8) underlying24 size5 rfl rfl (show _=(((7 - i):Nat):Int) by omega) zC zP) ?_;rintro _ _ ⟨p20,rfl,hp20,rfl⟩;refine O.opU rfl (.storeOwn size5 rfl hp20 rfl zC zP (show _=_ by simp only [Value.cells,byteV];rw [shift_byte n i zB _ rfl]:Rp.rel _ _ _ (beAt n i)))<|zz 6 ?_;rw [set_be n i zB];exact S.wk (ih (i+1) zB zB)
 ·refine zz 6 ?_
  refine S.ret results147 rfl fun w hw=>hR _ _ w ?_ hw;have:i=8:=by omega
  subst this;exact ⟨a,c,rfl,rfl⟩
theorem cloneB_c {r:Fr} {va:Value} {xs:List UInt8} (ha:Arr Rp.u8 r va xs) (hl:xs.length≤140737488355328) :
  Con prog 95 #[va] r [] (Ret fun v η=>∃ a c,v=.slice a xs.length c∧η=[OwnP Rp.u8 5 v xs]):=by
 refine Con.o func95 fun g hg R hR=>?_;have ha:=ha.mono hg;obtain ⟨a1,c1,rfl⟩:=ha.shape
 cases a1 with
 |none =>
  refine zz 8 ?_;refine O.op (.p rfl) (.eqlNil underlying24 rfl rfl)<|zz 6 ?_;obtain ⟨rfl,_,rfl⟩:=Arr.nil_of zE ha;refine S.addNil (T:=Rp.u8) (e:=5) ?_;refine S.ret results95 rfl fun w hw=>hR _ _ w ?_ hw;exact ⟨none,0,rfl,rfl⟩
 |some a1 =>
  refine zz 8 ?_;refine O.op (.p rfl) (.eqlNil underlying24 rfl rfl)<|zz 5 ?_;refine O.opE (.p rfl) (.litP (T:=Rp.u8) (ys:=[]) underlying24 elem5 zE rfl rfl trivial zE) ?_;rintro _ _ ⟨a5,c5,rfl,rfl⟩;refine O.q 1 rfl<|O.opE (.p rfl) (.appendP (T:=Rp.u8) pure_u8 underlying24 elem5 zE rfl rfl zC zA zG zG) ?_;rintro _ _ ⟨a7,c7,rfl,rfl⟩;refine O.q 1 rfl<|O.nil<|S.ret results95 rfl fun w hw=>hR _ _ w ?_ hw;exact ⟨a7,c7,by simp,by simp⟩
theorem growB0_c {r:Fr} (m:Nat) (hm:m≤140737488355328):Con prog 289 #[.slice none 0 0,.int .i64 (m:Int)] r [] (Ret fun v η=>∃ a c,v=.slice a 0 c∧η=[OwnP Rp.u8 5 v []]):=by
 refine Con.o func289 fun g hg R hR=>?_;refine zz 10 ?_;refine S.cd rfl (fun h6=>?_) fun h6=>?_
 ·exact absurd h6 zB
 ·refine zz 6 ?_
  refine O.op (.p rfl) (.cap rfl underlying24 rfl)<|zz 2 ?_;refine O.op (.p rfl) (.sub rfl rfl (IntWalk.i64_in _ zB))<|O.op (.p rfl) (.sub rfl rfl (IntWalk.i64_in _ zB))<|zz 7 ?_;refine S.cd rfl (fun h16=>?_) fun h16=>?_
  ·refine S.region rfl<|O.q 2 rfl<|O.op (.p rfl) (.cap rfl underlying24 rfl)<|O.op (.p rfl) (.sliceNil underlying24 size5 rfl rfl rfl)<|O.q 1 rfl<|O.opE (.p rfl) (.appendZ0 (T:=Rp.u8) (a:=0) (m:=m) underlying24 underlying3 elem5 zE rfl rfl rfl zB zB zB zB) ?_
   rintro _ _ ⟨a22,c22,rfl,rfl⟩;refine zz 2 ?_;refine O.opE (.p rfl) (.cutOwn (T:=Rp.u8) (m:=0) underlying24 size5 rfl rfl rfl zC zB) ?_;rintro _ _ ⟨a25,c25,rfl,rfl⟩;refine zz 7 ?_;refine S.ret results289 rfl fun w hw=>hR _ _ w ?_ hw;exact ⟨a25,c25,rfl,by simp⟩
  ·have hm0:m=0:=by omega
   subst hm0;refine S.addNil (T:=Rp.u8) (e:=5) ?_;refine zz 6 ?_;refine S.ret results289 rfl fun w hw=>hR _ _ w ?_ hw;exact ⟨none,0,rfl,rfl⟩
theorem flat_len_q (xss:List (List UInt8)) (i:Nat) (h:i<xss.length):(xss.take (i+1)).flatten=(xss.take i).flatten++xss[i]:=by
 rw [ztg h,List.flatten_append,List.flatten_singleton]
theorem flat_le (xss:List (List UInt8)) (i:Nat):(xss.take i).flatten.length≤xss.flatten.length:=by
 have:xss.flatten=(xss.take i).flatten++(xss.drop i).flatten:=by rw [← List.flatten_append,List.take_append_drop]
 rw [this,zla];omega
theorem concatB_c {r:Fr} {va:Value} {xss:List (List UInt8)} (ha:Arr (Rp.slice Rp.u8) r va xss) (hl:xss.flatten.length≤140737488355328) :
  Con prog 216 #[va] r [] (Ret fun v η=>∃ a c,v=.slice a xss.flatten.length c∧η=[OwnP Rp.u8 5 v xss.flatten]):=by
 refine Con.o func216 fun g hg R hR=>?_;have ha:=ha.mono hg;have hbd:=ha.bound;obtain ⟨a1,c1,rfl⟩:=ha.shape;refine zz 16 ?_;refine S.loopK2 (ι:=Nat) (κ:=Nat) (fun i s=>i≤xss.length∧s=(xss.take i).flatten.length) (fun i s=>[(11,.int .i64 (i:Int)),(3,.int .i64 (s:Int))]) [(0,_),(9,_),(10,_)] (fun i s=>[]) (fun i s=>xss.length - i) (0) (0) zH zq zq rfl fun i s hx ih=>?_;have hm1:=meltRefl (g:=g);obtain ⟨hx1,hs⟩:=hx;refine zz 5 ?_;refine S.cd rfl (fun h12=>?_) fun h12=>?_
 ·have hi:i<xss.length:=by omega
  have h1:=flat_len_q xss i hi;have h2:=flat_le xss (i+1);have h3:(xss.take (i+1)).flatten.length=(xss.take i).flatten.length+xss[i].length:=by rw [h1,zla]
  refine zz 5 ?_;refine O.ia (.p rfl) underlying109 size24 rfl rfl rfl zA (h:=fun p13 cs13 hp13 hr13=>?_);obtain ⟨v13,rfl,ha13⟩:=hr13;obtain ⟨a13,c13,rfl⟩:=ha13.shape;refine zz 16 ?_;refine S.cd rfl (fun h20=>?_) fun h20=>?_
  ·exact absurd h20 zB
  ·refine zz 6 ?_
   exact S.wk (ih (i+1) (s+xss[i].length) zB zB)
 ·have hi:i=xss.length:=by omega
  subst hi;rw [List.take_length] at hs;subst hs;refine zz 4 ?_;refine O.call0 (.p rfl) rfl zD rfl rfl (growB0_c xss.flatten.length zB) ?_;rintro _ _ ⟨a24,c24,rfl,rfl⟩;refine zz 10 ?_;refine S.loopK4 (ι:=Nat) (κ:=Option Addr) (υ:=Nat) (τ:=Nat) (fun i a6 m6 c6=>i≤xss.length∧m6=(xss.take i).flatten.length) (fun i a6 m6 c6=>[(27,.int .i64 (i:Int)),(6,.slice a6 m6 c6)]) [(25,_),(26,_)] (fun i a6 m6 c6=>[OwnP Rp.u8 5 (.slice a6 m6 c6) (xss.take i).flatten]) (fun i a6 m6 c6=>xss.length - i) (0) (a24) (0) (c24) zH zq zq rfl fun i a6 m6 c6 hx ih=>?_;have hm2:=meltRefl (g:=g);obtain ⟨hx1,hs⟩:=hx;refine zz 5 ?_;refine S.cd rfl (fun h28=>?_) fun h28=>?_
  ·have hi:i<xss.length:=by omega
   have h1:=flat_len_q xss i hi;have h2:=flat_le xss (i+1);have h3:(xss.take (i+1)).flatten.length=(xss.take i).flatten.length+xss[i].length:=by rw [h1,zla]
   refine zz 5 ?_;refine O.ia (.p rfl) underlying109 size24 rfl rfl rfl zA (h:=fun p29 cs29 hp29 hr29=>?_);obtain ⟨v29,rfl,ha29⟩:=hr29;obtain ⟨a29,c29,rfl⟩:=ha29.shape;refine zz 6 ?_;refine O.opE (.p rfl) (.appendP (T:=Rp.u8) pure_u8 underlying24 elem5 zE rfl rfl zC zA zG zG) ?_;rintro _ _ ⟨a33,c33,rfl,rfl⟩;refine zz 7 ?_;rw [← h1];exact S.wk (ih (i+1) (a33) ((xss.take i).flatten.length+xss[i].length) (c33) zB zB)
  ·have hi:i=xss.length:=by omega
   subst hi;rw [List.take_length] at hs;subst hs;refine zz 6 ?_;refine S.ret results216 rfl fun w hw=>hR _ _ w ?_ hw;exact ⟨a6,c6,rfl,by rw [List.take_length]⟩
theorem wJoin_c {r:Fr} {va:Value} {xss:List (List UInt8)} (ha:Arr (Rp.slice Rp.u8) r va xss) (hl:xss.flatten.length≤140737488355328) :
  Con prog 134 #[va] r [] (Ret fun v η=>∃ a c,v=.slice a xss.flatten.length c∧η=[OwnP Rp.u8 5 v xss.flatten]):=by
 refine Con.o func134 fun g hg R hR=>?_;have ha:=ha.mono hg;obtain ⟨a1,c1,rfl⟩:=ha.shape;refine zz 7 ?_;refine O.call0 (.p rfl) rfl zD rfl rfl (concatB_c zA zG) ?_;rintro _ _ ⟨a4,c4,rfl,rfl⟩;refine O.q 1 rfl<|O.nil<|S.ret results134 rfl fun w hw=>hR _ _ w ?_ hw;exact ⟨a4,c4,rfl,rfl⟩
theorem wBytes_c {r:Fr} {va:Value} {xs:List UInt8} (ha:Arr Rp.u8 r va xs) (hl:xs.length≤100000000000000) :
  Con prog 80 #[va] r [] (Ret fun v η=>∃ a c,v=.slice a (bytesOf xs).length c∧η=[OwnP Rp.u8 5 v (bytesOf xs)]):=by
 refine Con.o func80 fun g hg R hR=>?_;have ha:=ha.mono hg;obtain ⟨a1,c1,rfl⟩:=ha.shape;refine zz 8 ?_;refine O.call0 (.p rfl) rfl zD rfl rfl (wNumber_c _) ?_;rintro _ _ ⟨a5,c5,rfl,rfl⟩;refine O.q 1 rfl<|O.opE (.p rfl) (.litP (T:=Rp.val) (ys:=[_,_]) underlying109 elem24 zE rfl rfl ⟨⟨rfl,rfl⟩,⟨rfl,rfl⟩,trivial⟩ zE) ?_;rintro _ _ ⟨a7,c7,rfl,rfl⟩;refine O.callB (.p rfl) rfl zD rfl rfl (bs:=[OwnP Rp.val 24 (.slice a7 2 c7) [.slice a5 8 c5,.slice a1 xs.length c1],OwnP Rp.u8 5 (.slice a5 8 c5) (be xs.length)]) zI (fun m hm hd=>wJoin_c (xss:=[be xs.length,xs]) ((hm.arr.right hd).rows ⟨hm.tail.arr.right hd,ha.left,trivial⟩) (by simp [be_length];omega)) ?_;rintro _ _ ⟨a8,c8,rfl,rfl⟩;refine O.q 1 rfl<|O.nil<|S.ret results80 rfl fun w hw=>hR _ _ w ?_ hw.fst;exact ⟨a8,c8,by simp [bytesOf],by simp [bytesOf]⟩
theorem wNewReader_c {r:Fr} {va:Value} {xs:List UInt8} (ha:Arr Rp.u8 r va xs) (hl:xs.length≤140737488355328) :
  Con prog 343 #[va] r [] (Ret fun v η=>∃ b a c,v=.pointer (some ⟨b,0,none⟩)∧η=[obj b 441 [.slice a xs.length c,.bool true,.bool false],OwnP Rp.u8 5 (.slice a xs.length c) xs]):=by
 refine Con.o func343 fun g hg R hR=>?_;have ha:=ha.mono hg;obtain ⟨a1,c1,rfl⟩:=ha.shape;refine zz 7 ?_;refine O.call0 (.p rfl) rfl zD rfl rfl (cloneB_c zA zG) ?_;rintro _ _ ⟨a4,c4,rfl,rfl⟩;refine O.op (.p rfl) (.build (cs:=[_]) underlying439 rfl rfl rfl rfl rfl)<|O.op (.p rfl) (.build (cs:=[_,_,_]) underlying441 rfl rfl rfl rfl rfl)<|O.opE (.p rfl) (.box (cs:=[_,_,_]) rfl rfl) ?_;rintro _ _ ⟨b7,rfl,rfl⟩;refine O.q 1 rfl<|O.nil<|S.ret results343 rfl fun w hw=>hR _ _ w ?_ hw.fst2;exact ⟨b7,a4,c4,rfl,rfl⟩
theorem rGood_c {r:Fr} {b:Nat} {v:Value} {made bad:Bool}:Con prog 377 #[.pointer (some ⟨b,0,none⟩)] r [obj b 441 [v,.bool made,.bool bad]] (Ret fun u η=>u=.bool (made && !bad)∧η=[obj b 441 [v,.bool made,.bool bad]]):=by
 refine Con.o func377 fun g hg R hR=>?_;refine zz 7 ?_;refine O.op (.p rfl) (.neqP underlying423 rfl rfl)<|zz 7 ?_
 refine O.cs 11 rfl (fun h11=>?_) fun h11=>?_
 ·subst h11
  refine zz 4 ?_;refine O.op (.g rfl rfl) ((by first|exact .notD rfl|exact .not rfl)) ?_;refine O.q 2 rfl<|O.nil<|S.ret results377 rfl fun w hw=>hR _ _ w ?_ hw;exact ⟨rfl,rfl⟩
 ·subst h11
  refine O.q 7 rfl<|O.nil<|S.ret results377 rfl fun w hw=>hR _ _ w ?_ hw;exact ⟨rfl,rfl⟩
theorem rDone_c {r:Fr} {b:Nat} {v:Value} {rest:List UInt8} {made bad:Bool} (ha:Arr Rp.u8 r v rest):Con prog 348 #[.pointer (some ⟨b,0,none⟩)] r [obj b 441 [v,.bool made,.bool bad]] (Ret fun u η=>u=.bool (decide ((made && !bad)=true∧rest=[]))∧η=[obj b 441 [v,.bool made,.bool bad]]):=by
 refine Con.o func348 fun g hg R hR=>?_;obtain ⟨a1,c1,rfl⟩:=ha.shape;refine zz 7 ?_;refine O.vS (.p rfl) rfl zD rfl rfl zC rGood_c<|zz 1 ?_
 refine O.cs 5 rfl (fun h5=>?_) fun h5=>?_
 ·refine zz 10 ?_
  refine S.ret results348 rfl fun w hw=>hR _ _ w ?_ hw;refine ⟨?_,rfl⟩
  simp [h5]
 ·refine O.q 9 rfl<|O.nil<|S.ret results348 rfl fun w hw=>hR _ _ w ?_ hw
  refine ⟨?_,rfl⟩
  simp [h5]
def missing:List PanicEntry:=[{ v:=.iface 459 (.agg #[]),recovered:=false }]
theorem must_c {r:Fr} (b:Bool):Con prog 391 #[.bool b] r [] (RetP (fun v η=>b=true∧v=.tuple #[]∧η=[]) (fun ch η=>b=false∧ch=missing∧η=[])):=by
 refine Con.o func391 fun g hg R hR=>?_;refine zz 3 ?_;refine O.op (.p rfl) ((by first|exact .notD rfl|exact .not rfl))<|zz 1 ?_;refine S.cd rfl (fun h3=>?_) fun h3=>?_
 ·refine S.region rfl<|O.op (.p rfl) (.build (cs:=[]) underlying459 rfl rfl rfl rfl rfl)<|O.op (.p rfl) (.mkIface underlying459 rfl)<|O.panic rfl rfl (fun w hw=>?_)
  exact hR _ [] w ⟨by simpa using h3,rfl,rfl⟩ hw
 ·refine S.skip<|S.end0 results391 fun w hw=>hR _ _ w ?_ hw
  exact ⟨by simpa using h3,rfl,rfl⟩
theorem take_c {r:Fr} {b T:Nat} {v:Value} {cs:List Value} {rest:List UInt8} (n:Int) (ha:Arr Rp.u8 r v rest) :
  Con prog 372 #[.pointer (some ⟨b,0,none⟩),.int .i64 n] r [obj b T (v::cs)]
   (RetP (fun u η=>(0≤n∧n≤rest.length)∧∃ a c v',u=.slice a (rest.take n.toNat).length c∧Arr Rp.u8 r (.slice a (rest.take n.toNat).length c) (rest.take n.toNat)∧Arr Rp.u8 r v' (rest.drop n.toNat)∧η=[obj b T (v' ::cs)]) (fun ch η=>¬(0≤n∧n≤rest.length)∧ch=missing∧η=[obj b T (v::cs)])):=by
 refine Con.o func372 fun g hg R hR=>?_;have hbd:=ha.bound;obtain ⟨a1,c1,rfl⟩:=ha.shape;refine zz 9 ?_
 refine O.cs 8 rfl (fun h8=>?_) fun h8=>?_
 ·refine zz 8 ?_
  refine O.callP0 (.p rfl) rfl zD rfl rfl (must_c _) (fun ch η' w hX hW=>by (obtain ⟨hb,rfl,rfl⟩:=hX;exact hR _ _ w ⟨by simp at hb;omega,rfl,rfl⟩ hW)) ?_;rintro _ _ ⟨hb17,rfl,rfl⟩;have hb:0≤n∧n≤rest.length:=by simp at hb17;omega
  refine zz 7 ?_;refine O.q 1 rfl<|O.sliceTo (b:=n.toNat) (.p rfl) underlying24 size5 rfl rfl zM zG zG (fun u23 ha23=>?_);obtain ⟨a23,c23,rfl⟩:=ha23.shape;refine zz 9 ?_;refine O.q 1 rfl<|O.sliceFrom (a:=n.toNat) (.p rfl) underlying24 size5 rfl rfl zM zG zG (fun u30 ha30=>?_);obtain ⟨a30,c30,rfl⟩:=ha30.shape;refine zz 9 ?_;refine S.ret results372 rfl fun w hw=>hR _ _ w ?_ hw;exact ⟨hb,_,_,_,rfl,ha23,ha30,rfl⟩
 ·refine O.q 8 rfl<|O.callP0 (.p rfl) rfl zD rfl rfl (must_c _) (fun ch η' w hX hW=>by (obtain ⟨hb,rfl,rfl⟩:=hX;exact hR _ _ w ⟨by omega,rfl,rfl⟩ hW)) ?_
  rintro _ _ ⟨hb17,rfl,rfl⟩;exact absurd hb17 zH
theorem one_of {α:Type} {rest:List α} (h:(0:Int)≤1∧(1:Int)≤rest.length):∃ x xs,rest=x::xs:=by
 cases rest with
 |nil=>simp at h
 |cons x xs=>exact ⟨x,xs,rfl⟩
theorem none_of {α:Type} {rest:List α} (h:¬((0:Int)≤1∧(1:Int)≤rest.length)):rest=[]:=by
 cases rest with
 |nil=>rfl
 |cons x xs=>simp at h;omega
theorem one_c {r:Fr} {b T:Nat} {v:Value} {cs:List Value} {rest:List UInt8} (ha:Arr Rp.u8 r v rest) :
  Con prog 369 #[.pointer (some ⟨b,0,none⟩)] r [obj b T (v::cs)]
   (RetP (fun u η=>∃ x xs v',rest=x::xs∧u=byteV x∧Arr Rp.u8 r v' xs∧η=[obj b T (v' ::cs)]) (fun ch η=>rest=[]∧ch=missing∧η=[obj b T (v::cs)])):=by
 refine Con.o func369 fun g hg R hR=>?_;refine zz 7 ?_;refine O.callPS (.p rfl) rfl zD rfl rfl zC ((take_c 1 ha).sub hg) (fun ch η' w hX hW=>by (obtain ⟨hb,rfl,rfl⟩:=hX;exact hR _ _ w ⟨none_of hb,rfl,rfl⟩ hW)) ?_;rintro v4 _ ⟨hb4,a4,c4,v4,rfl,ha4,ha4',rfl⟩;obtain ⟨x,xs,rfl⟩:∃ x xs,rest=x::xs:=one_of hb4;refine O.ia (.p rfl) underlying24 size5 rfl rfl (show _=((0:Nat):Int) from rfl) zA (h:=fun p5 cs5 hp5 hr5=>?_)
 cases hr5
 refine zz 1 ?_;refine O.q 1 rfl<|O.nil<|S.ret results369 rfl fun w hw=>hR _ _ w ?_ hw;exact ⟨x,xs,_,rfl,rfl,ha4',rfl⟩
theorem number_c {r:Fr} {b T:Nat} {v:Value} {cs:List Value} {rest:List UInt8} (ha:Arr Rp.u8 r v rest) :
  Con prog 375 #[.pointer (some ⟨b,0,none⟩)] r [obj b T (v::cs)]
   (RetP (fun u η=>8≤rest.length∧∃ v',u=.int .i64 (ofBe rest)∧Arr Rp.u8 r v' (rest.drop 8)∧η=[obj b T (v' ::cs)]) (fun ch η=>rest.length<8∧ch=missing∧η=[obj b T (v::cs)])):=by
 refine Con.o func375 fun g hg R hR=>?_;refine zz 12 ?_;refine O.callPS (.p rfl) rfl zD rfl rfl zC ((take_c 8 ha).sub hg) (fun ch η' w hX hW=>by (obtain ⟨hb,rfl,rfl⟩:=hX;exact hR _ _ w ⟨by omega,rfl,rfl⟩ hW)) ?_;rintro v7 _ ⟨hb7,a7,c7,v7,rfl,ha7,ha7',rfl⟩;refine zz 4 ?_;have hl8:(rest.take (Int.toNat 8)).length=8:=by simp;omega
 refine S.loopK (ι:=Nat) (fun i=>i≤8) (fun i=>[(9,.int .i64 (i:Int)),(3,.int .u64 (beVal (rest.take i):Nat))]) [(7,_),(8,_)] (fun i=>[obj b T (v7::cs)]) (fun i=>8 - i) (0) zH zq zq rfl fun i hx ih=>?_;have hm1:=meltRefl (g:=g);refine zz 5 ?_;refine S.cd rfl (fun h10=>?_) fun h10=>?_
 ·have hi:i<8:=by omega
  refine zz 5 ?_;refine O.ia (.p rfl) underlying24 size5 rfl rfl rfl zA (h:=fun p11 cs11 hp11 hr11=>?_)
  cases hr11
  refine zz 5 ?_;refine O.op (.p rfl) (.shl rfl rfl zB)<|zz 1 ?_;refine O.op (.p rfl) (.cvt underlying5 underlying274 rfl)<|O.op (.p rfl) (.or rfl rfl)<|zz 7 ?_;rw [or_byte _ _ (beVal_lt7 rest i hi),show (rest.take (Int.toNat 8))[i]=rest[i] from by simp,← beVal_take rest i zB];exact S.wk (ih (i+1) zB zB)
 ·have hi:i=8:=by omega
  subst hi;refine zz 4 ?_;refine O.op (.p rfl) (.cvt underlying274 underlying3 rfl) ?_;refine zz 2 ?_;refine S.ret results375 rfl fun w hw=>hR _ _ w ?_ hw;exact ⟨by omega,v7,by rw [wrap_i64_eq _ (Nat.lt_of_lt_of_le (beVal_lt rest 8) zE)];rfl,ha7',rfl⟩
end Go.Proofs.YtojafegjlahajaaGreatDoor
