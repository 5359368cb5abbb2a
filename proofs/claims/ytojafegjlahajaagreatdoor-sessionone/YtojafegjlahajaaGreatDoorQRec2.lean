/- Texts of this proof. -/
import Derived.Test.YtojafegjlahajaaGreatDoorQFi
import Derived.Test.YtojafegjlahajaaGreatDoorQSpLaid
open Go Go.Sp Go.Proofs.Tryz
set_option maxRecDepth 100000
set_option maxHeartbeats 1000000
attribute [local irreducible] obj Own av
namespace Go.Proofs.YtojafegjlahajaaGreatDoor
theorem yg {r:Fr} {va kQ:Value} {xs ys:List UInt8} (ha:aj ag.u8 r va xs) (hb:aj ag.u8 r kQ ys) :
  ay prog 19 #[va,kQ] r [] (aM fun v U=>v=.bool (decide (xs=ys))∧U=[]):=by
 refine ay.of (n:=26) _ rfl func19 rfl rfl rfl fun g hg R hR=>?_;have ha:=ha.mono hg;have hb:=hb.mono hg;have l1:=ha.bound;have l2:=hb.bound;obtain ⟨a1,c1,rfl⟩:=ha.shape;obtain ⟨a2,c2,rfl⟩:=hb.shape;refine S.seq<|S.region rfl<|O.q 1 rfl<|O.nil<|S.seq<|S.seq<|S.region rfl<|O.q 1 rfl<|O.op (.p rfl) (.len rfl underlying24 rfl)<|O.q 1 rfl<|O.op (.p rfl) (.len rfl underlying24 rfl)<|O.op (.p rfl) (.neq rfl rfl)<|O.nil ?_
 first|refine S.ct rfl (fun h10=>?_) (fun h10=>?_)|refine S.cm rfl (fun h10=>?_) (fun h10=>?_)
 ·refine S.seq<|S.region rfl<|O.q 1 rfl<|O.nil<|S.ret results19 rfl fun w hw=>hR _ _ w ?_ hw
  refine ⟨?_,rfl⟩
  congr 1
  symm
  rw [decide_eq_false_iff_not];rintro rfl;exact h10 rfl
 ·refine S.skip<|S.seq<|S.seq<|S.region rfl<|O.q 1 rfl<|O.nil (S.block ?_)
  have h10:xs.length=ys.length:=by omega
  refine S.fT (ι:=Nat) (fun i=>i≤xs.length∧xs.take i=ys.take i) (fun i=>[(5,.int .i64 (i:Int))]) [(0,_),(1,_)] (fun i=>[]) (fun i=>xs.length - i) (0) bq (.cons rfl (.nil)) (.cons rfl (.cons rfl (.nil))) rfl fun i hx ih=>?_;have bl:=cW (g:=g);obtain ⟨hi,he⟩:=hx;refine S.seq<|S.seq<|S.region rfl<|O.q 2 rfl<|O.op (.p rfl) (.len rfl underlying24 rfl)<|O.op (.p rfl) (.lss rfl rfl)<|O.nil ?_
  first|refine S.ct rfl (fun jh=>?_) (fun jh=>?_)|refine S.cm rfl (fun jh=>?_) (fun jh=>?_)
  ·have hlt:i<xs.length:=by omega
   refine S.skip<|S.seq<|S.block<|S.seq<|S.bB (L:=[0,1,2,3,4,5,6,7,8]) bx aa<|af.q 2 rfl<|af.b_ (.p rfl) underlying24 fL rfl rfl rfl (by first|assumption|exact aj.mono hg aB|exact aj.left aB|exact aj.left (aj.mono hg aB)) (h:=fun Ju Mw s_ nY=>?_)
   cases nY
   refine .quiet (.p rfl) rfl (fun _=>.loadAt kX rfl s_ rfl) ?_;refine af.q 2 rfl<|af.b_ (.p rfl) underlying24 fL rfl rfl rfl (by first|assumption|exact aj.mono hg aB|exact aj.left aB|exact aj.left (aj.mono hg aB)) (h:=fun Yj Wm ON O8=>?_)
   cases O8
   refine .quiet (.p rfl) rfl (fun _=>.loadAt kX rfl ON rfl) ?_;refine .quiet (.p rfl) rfl (fun _=>.neq rfl rfl)<|aK.nil ?_
   first|refine S.ct rfl (fun rC=>?_) (fun rC=>?_)|refine S.cm rfl (fun rC=>?_) (fun rC=>?_)
   ·refine S.seq<|S.region rfl<|O.q 1 rfl<|O.nil<|S.ret results19 rfl fun w hw=>hR _ _ w ?_ hw
    refine ⟨?_,rfl⟩
    congr 1
    symm
    rw [decide_eq_false_iff_not];rintro rfl;exact rC rfl
   ·refine S.skip<|S.inBlock<|S.region rfl<|O.q 1 rfl<|O.op (.p rfl) (.add rfl rfl (IntWalk.i64_in _ ah))<|O.q 1 rfl<|O.nil ?_
    exact S.dH (ih (i+1) (by (refine ⟨hlt,?_⟩;rw [List.take_succ_eq_append_getElem hlt,List.take_succ_eq_append_getElem ah,he];congr 2;exact UInt8.toNat_inj.1 ah)) ah)
  ·refine S.exit rfl<|S.seq<|S.region rfl<|O.q 1 rfl<|O.nil<|S.ret results19 rfl fun w hw=>hR _ _ w ?_ hw
   refine ⟨?_,rfl⟩
   congr 1
   symm
   rw [decide_eq_true_eq];have:i=xs.length:=by omega
   subst this
   rwa [List.take_of_length_le (Nat.le_refl _),List.take_of_length_le ah] at he
theorem Us (n:Int) (i:Nat) (h:i<8):(List.replicate (8 - i) (0:UInt8)++(be n).drop (8 - i)).set (7 - i) (jx n i)=List.replicate (8 - (i+1)) 0++(be n).drop (8 - (i+1)):=by
 match i,h with
 |0,_|1,_|2,_|3,_|4,_|5,_|6,_|7,_=>rfl
theorem j7 {r:Fr} (n:Int):ay prog 147 #[.int .i64 n] r [] (aM fun v U=>∃ a c,v=.slice a 8 c∧U=[av ag.u8 5 v (be n)]):=by
 refine ay.of (n:=23) _ rfl func147 rfl rfl rfl fun g hg R hR=>?_;refine S.seq<|S.region rfl<|O.q 1 rfl<|O.nil<|S.seq<|S.region rfl<|O.aO (.p rfl) (.zM (T:=ag.u8) (0:UInt8) (m:=8) underlying24 eM zE rfl rfl rfl rfl rfl zE zE) ?_;rintro _ _ ⟨a,c,rfl,rfl⟩;refine O.q 1 rfl<|O.nil<|S.seq<|S.seq<|S.region rfl<|O.q 1 rfl<|O.op (.p rfl) (.len rfl underlying24 rfl)<|O.q 1 rfl<|O.nil<|S.block<|S.fT (ι:=Nat) (fun i=>i≤8) (fun i=>[(8,.int .i64 (i:Int))]) [(0,_),(3,_),(7,_)] (fun i=>[av ag.u8 5 (.slice a 8 c) (List.replicate (8 - i) 0++(be n).drop (8 - i))]) (fun i=>8 - i) (0) bq (.cons rfl (.nil)) (.cons rfl (.cons rfl (.cons rfl (.nil)))) rfl fun i hx ih=>?_;have bl:=cW (g:=g);refine S.seq<|S.region rfl<|O.op (.p rfl) (.lss rfl rfl)<|O.nil (S.seq ?_)
 first|refine S.ct rfl (fun h9=>?_) (fun h9=>?_)|refine S.cm rfl (fun h9=>?_) (fun h9=>?_)
 ·refine S.skip<|S.seq<|S.block<|S.seq<|S.region rfl<|O.q 2 rfl<|O.nil<|S.region rfl<|O.q 2 rfl<|O.op (.p rfl) (.sub rfl rfl (IntWalk.i64_in _ ah))<|O.q 1 rfl<|O.op (.p rfl) (.lD underlying3 underlying274 rfl)<|O.q 1 rfl<|O.op (.p rfl) (.mul rfl rfl (IntWalk.i64_in _ ah))<|O.op (.p rfl) (.shr rfl rfl ah)<|O.op (.p rfl) (.lD underlying274 underlying5 rfl)<|O.aO (.p rfl) (.oZ (T:=ag.u8) underlying24 fL rfl rfl (show _=(((7 - i):Nat):Int) by omega) ai p7) ?_
  rintro _ _ ⟨Yh,rfl,OL,rfl⟩;refine O.bw rfl (.qR fL rfl OL rfl ai p7 (show _=_ by simp only [Value.cells,bH];rw [Kh n i ah _ rfl]:ag.rel _ _ _ (jx n i))) ?_;refine O.nil<|S.inBlock<|S.region rfl<|O.op (.p rfl) (.add rfl rfl (IntWalk.i64_in _ ah))<|O.q 1 rfl<|O.nil ?_;rw [Us n i ah];exact S.dH (ih (i+1) ah ah)
 ·refine S.exit rfl<|S.seq<|S.region rfl<|O.q 2 rfl<|O.nil<|S.ret results147 rfl fun w hw=>hR _ _ w ?_ hw
  have:i=8:=by omega
  subst this;exact ⟨a,c,rfl,rfl⟩
theorem er {r:Fr} {va:Value} {xs:List UInt8} (ha:aj ag.u8 r va xs) (hl:xs.length≤140737488355328) :
  ay prog 95 #[va] r [] (aM fun v U=>∃ a c,v=.slice a xs.length c∧U=[av ag.u8 5 v xs]):=by
 refine ay.of (n:=8) _ rfl func95 rfl rfl rfl fun g hg R hR=>?_;have ha:=ha.mono hg;obtain ⟨a1,c1,rfl⟩:=ha.shape
 cases a1 with
 |none =>
  refine S.seq<|S.region rfl<|O.q 1 rfl<|O.nil<|S.seq<|S.seq<|S.region rfl<|O.q 1 rfl<|O.op (.p rfl) (.nc underlying24 rfl rfl)<|O.nil<|S.bC rfl<|S.seq<|S.region rfl<|O.q 1 rfl<|O.nil ?_;obtain ⟨rfl,_,rfl⟩:=aj.xF zE ha;refine S.gd (T:=ag.u8) (e:=5) ?_;refine S.ret results95 rfl fun w hw=>hR _ _ w ?_ hw;exact ⟨none,0,rfl,rfl⟩
 |some a1 =>
  refine S.seq<|S.region rfl<|O.q 1 rfl<|O.nil<|S.seq<|S.seq<|S.region rfl<|O.q 1 rfl<|O.op (.p rfl) (.nc underlying24 rfl rfl)<|O.nil<|S.aP rfl<|S.skip<|S.seq<|S.region rfl<|O.aO (.p rfl) (.cn (T:=ag.u8) (ys:=[]) underlying24 eM zE rfl rfl trivial zE) ?_;rintro _ _ ⟨a5,dM,rfl,rfl⟩;refine O.q 1 rfl<|O.aO (.p rfl) (.pH (T:=ag.u8) Ae underlying24 eM zE rfl rfl ai (by first|assumption|exact aj.mono hg aB|exact aj.left aB|exact aj.left (aj.mono hg aB)) bL bL) ?_;rintro _ _ ⟨a7,ia,rfl,rfl⟩;refine O.q 1 rfl<|O.nil<|S.ret results95 rfl fun w hw=>hR _ _ w ?_ hw;exact ⟨a7,ia,by simp,by simp⟩
theorem Np {r:Fr} (m:Nat) (hm:m≤140737488355328):ay prog 289 #[.slice none 0 0,.int .i64 (m:Int)] r [] (aM fun v U=>∃ a c,v=.slice a 0 c∧U=[av ag.u8 5 v []]):=by
 refine ay.of (n:=27) _ rfl func289 rfl rfl rfl fun g hg R hR=>?_;refine S.seq<|S.region rfl<|O.q 1 rfl<|O.nil<|S.seq<|S.seq<|S.region rfl<|O.q 1 rfl<|O.op (.p rfl) (.lss rfl rfl)<|O.nil ?_
 first|refine S.ct rfl (fun h6=>?_) (fun h6=>?_)|refine S.cm rfl (fun h6=>?_) (fun h6=>?_)
 ·exact absurd h6 ah
 ·refine S.skip<|S.seq<|S.seq<|S.region rfl<|O.q 2 rfl<|O.op (.p rfl) (.cap rfl underlying24 rfl)<|O.q 1 rfl<|O.op (.p rfl) (.len rfl underlying24 rfl)<|O.op (.p rfl) (.sub rfl rfl (IntWalk.i64_in _ ah))<|O.op (.p rfl) (.sub rfl rfl (IntWalk.i64_in _ ah))<|O.q 1 rfl<|O.nil<|S.seq<|S.region rfl<|O.q 1 rfl<|O.op (.p rfl) (.gtr rfl rfl)<|O.nil ?_
  first|refine S.ct rfl (fun e7=>?_) (fun e7=>?_)|refine S.cm rfl (fun e7=>?_) (fun e7=>?_)
  ·refine S.region rfl<|O.q 2 rfl<|O.op (.p rfl) (.cap rfl underlying24 rfl)<|O.op (.p rfl) (.UE underlying24 fL rfl rfl rfl)<|O.q 1 rfl<|O.aO (.p rfl) (.Lj (T:=ag.u8) (a:=0) (m:=m) underlying24 underlying3 eM zE rfl rfl rfl ah ah ah ah) ?_
   rintro _ _ ⟨a22,dZ,rfl,rfl⟩;refine O.q 1 rfl<|O.op (.p rfl) (.len rfl underlying24 rfl)<|O.aO (.p rfl) (.MC (T:=ag.u8) (m:=0) underlying24 fL rfl rfl rfl ai ah) ?_;rintro _ _ ⟨a25,qb,rfl,rfl⟩;refine O.q 1 rfl<|O.nil<|S.seq<|S.region rfl<|O.q 2 rfl<|O.nil<|S.ret results289 rfl fun w hw=>hR _ _ w ?_ hw;exact ⟨a25,qb,rfl,by simp⟩
  ·have hm0:m=0:=by omega
   subst hm0;refine S.gd (T:=ag.u8) (e:=5) ?_;refine S.skip<|S.seq<|S.region rfl<|O.q 2 rfl<|O.nil<|S.ret results289 rfl fun w hw=>hR _ _ w ?_ hw;exact ⟨none,0,rfl,rfl⟩
theorem GZ (xss:List (List UInt8)) (i:Nat) (h:i<xss.length):(xss.take (i+1)).flatten=(xss.take i).flatten++xss[i]:=by
 rw [List.take_succ_eq_append_getElem h,List.flatten_append,List.flatten_singleton]
theorem GY (xss:List (List UInt8)) (i:Nat):(xss.take i).flatten.length≤xss.flatten.length:=by
 have:xss.flatten=(xss.take i).flatten++(xss.drop i).flatten:=by rw [← List.flatten_append,List.take_append_drop]
 rw [this,List.length_append];omega
theorem Ml {r:Fr} {va:Value} {xss:List (List UInt8)} (ha:aj (ag.slice ag.u8) r va xss) (hl:xss.flatten.length≤140737488355328) :
  ay prog 216 #[va] r [] (aM fun v U=>∃ a c,v=.slice a xss.flatten.length c∧U=[av ag.u8 5 v xss.flatten]):=by
 refine ay.of (n:=36) _ rfl func216 rfl rfl rfl fun g hg R hR=>?_;have ha:=ha.mono hg;have hbd:=ha.bound;obtain ⟨a1,c1,rfl⟩:=ha.shape;refine S.seq<|S.region rfl<|O.q 1 rfl<|O.nil<|S.seq<|S.region rfl<|O.q 1 rfl<|O.nil<|S.seq<|S.seq<|S.region rfl<|O.q 1 rfl<|O.op (.p rfl) (.len rfl underlying109 rfl)<|O.q 1 rfl<|O.nil<|S.block<|S.jG (ι:=Nat) (dB:=Nat) (fun i s=>i≤xss.length∧s=(xss.take i).flatten.length) (fun i s=>[(11,.int .i64 (i:Int)),(3,.int .i64 (s:Int))]) [(0,_),(9,_),(10,_)] (fun i s=>[]) (fun i s=>xss.length - i) (0) (0) bq (.cons rfl (.cons rfl (.nil))) (.cons rfl (.cons rfl (.cons rfl (.nil)))) rfl fun i s hx ih=>?_;have bl:=cW (g:=g);obtain ⟨hx1,hs⟩:=hx;refine S.seq<|S.region rfl<|O.op (.p rfl) (.lss rfl rfl)<|O.nil (S.seq ?_)
 first|refine S.ct rfl (fun h12=>?_) (fun h12=>?_)|refine S.cm rfl (fun h12=>?_) (fun h12=>?_)
 ·have hi:i<xss.length:=by omega
  have h1:=GZ xss i hi;have h2:=GY xss (i+1);have h3:(xss.take (i+1)).flatten.length=(xss.take i).flatten.length+xss[i].length:=by rw [h1,List.length_append]
  refine S.skip<|S.seq<|S.block<|S.seq<|S.region rfl<|O.b_ (.p rfl) underlying109 tP rfl rfl rfl (by first|assumption|exact aj.mono hg aB|exact aj.left aB|exact aj.left (aj.mono hg aB)) (h:=fun Jt GF wV w6=>?_);obtain ⟨YT,rfl,NA⟩:=w6;obtain ⟨iz,iD,rfl⟩:=NA.shape;refine O.op (.p rfl) (.loadAt bg rfl wV rfl) ?_;refine O.q 1 rfl<|O.nil<|S.seq<|S.region rfl<|O.q 2 rfl<|O.op (.p rfl) (.len rfl underlying24 rfl)<|O.op (.p rfl) (.add rfl rfl (IntWalk.i64_in _ ah))<|O.q 1 rfl<|O.nil<|S.seq<|S.region rfl<|O.q 1 rfl<|O.op (.p rfl) (.lss rfl rfl)<|O.nil ?_
  first|refine S.ct rfl (fun nS=>?_) (fun nS=>?_)|refine S.cm rfl (fun nS=>?_) (fun nS=>?_)
  ·exact absurd nS ah
  ·refine S.skip<|S.inBlock<|S.region rfl<|O.op (.p rfl) (.add rfl rfl (IntWalk.i64_in _ ah))<|O.q 1 rfl<|O.nil ?_
   exact S.dH (ih (i+1) (s+xss[i].length) ah ah)
 ·have hi:i=xss.length:=by omega
  subst hi;rw [List.take_length] at hs;subst hs;refine S.exit rfl<|S.seq<|S.region rfl<|O.q 1 rfl<|O.aC (.p rfl) rfl aa rfl rfl (Np xss.flatten.length ah) ?_;rintro _ _ ⟨a24,kT,rfl,rfl⟩
  try simp only [an,aq,au]
  refine O.q 1 rfl<|O.nil<|S.seq<|S.seq<|S.region rfl<|O.q 1 rfl<|O.op (.p rfl) (.len rfl underlying109 rfl)<|O.q 1 rfl<|O.nil<|S.block<|S.D2 (ι:=Nat) (dB:=Option Addr) (jO:=Nat) (dx:=Nat) (fun i a6 m6 dD=>i≤xss.length∧m6=(xss.take i).flatten.length) (fun i a6 m6 dD=>[(27,.int .i64 (i:Int)),(6,.slice a6 m6 dD)]) [(25,_),(26,_)] (fun i a6 m6 dD=>[av ag.u8 5 (.slice a6 m6 dD) (xss.take i).flatten]) (fun i a6 m6 dD=>xss.length - i) (0) (a24) (0) (kT) bq (.cons rfl (.cons rfl (.nil))) (.cons rfl (.cons rfl (.nil))) rfl fun i a6 m6 dD hx ih=>?_;have hm2:=cW (g:=g);obtain ⟨hx1,hs⟩:=hx;refine S.seq<|S.region rfl<|O.op (.p rfl) (.lss rfl rfl)<|O.nil (S.seq ?_)
  first|refine S.ct rfl (fun sR=>?_) (fun sR=>?_)|refine S.cm rfl (fun sR=>?_) (fun sR=>?_)
  ·have hi:i<xss.length:=by omega
   have h1:=GZ xss i hi;have h2:=GY xss (i+1);have h3:(xss.take (i+1)).flatten.length=(xss.take i).flatten.length+xss[i].length:=by rw [h1,List.length_append]
   refine S.skip<|S.seq<|S.block<|S.seq<|S.region rfl<|O.b_ (.p rfl) underlying109 tP rfl rfl rfl (by first|assumption|exact aj.mono hg aB|exact aj.left aB|exact aj.left (aj.mono hg aB)) (h:=fun SE Mz wX Dw=>?_);obtain ⟨v29,rfl,Hp⟩:=Dw;obtain ⟨a29,Bu,rfl⟩:=Hp.shape;refine O.op (.p rfl) (.loadAt bg rfl wX rfl) ?_;refine O.q 1 rfl<|O.nil<|S.region rfl<|O.q 2 rfl<|O.aO (.p rfl) (.pH (T:=ag.u8) Ae underlying24 eM zE rfl rfl ai (by first|assumption|exact aj.mono hg aB|exact aj.left aB|exact aj.left (aj.mono hg aB)) bL bL) ?_;rintro _ _ ⟨a33,LS,rfl,rfl⟩;refine O.q 1 rfl<|O.nil<|S.inBlock<|S.region rfl<|O.op (.p rfl) (.add rfl rfl (IntWalk.i64_in _ ah))<|O.q 1 rfl<|O.nil ?_;rw [← h1];exact S.dH (ih (i+1) (a33) ((xss.take i).flatten.length+xss[i].length) (LS) ah ah)
  ·have hi:i=xss.length:=by omega
   subst hi;rw [List.take_length] at hs;subst hs;refine S.exit rfl<|S.seq<|S.region rfl<|O.q 2 rfl<|O.nil<|S.ret results216 rfl fun w hw=>hR _ _ w ?_ hw;exact ⟨a6,dD,rfl,by rw [List.take_length]⟩
theorem AL {r:Fr} {va:Value} {xss:List (List UInt8)} (ha:aj (ag.slice ag.u8) r va xss) (hl:xss.flatten.length≤140737488355328) :
  ay prog 134 #[va] r [] (aM fun v U=>∃ a c,v=.slice a xss.flatten.length c∧U=[av ag.u8 5 v xss.flatten]):=by
 refine ay.of (n:=5) _ rfl func134 rfl rfl rfl fun g hg R hR=>?_;have ha:=ha.mono hg;obtain ⟨a1,c1,rfl⟩:=ha.shape;refine S.seq<|S.region rfl<|O.q 1 rfl<|O.nil<|S.seq<|S.region rfl<|O.q 1 rfl<|O.aC (.p rfl) rfl aa rfl rfl (Ml (by first|assumption|exact aj.mono hg aB|exact aj.left aB|exact aj.left (aj.mono hg aB)) bL) ?_;rintro _ _ ⟨a4,gL,rfl,rfl⟩
 try simp only [an,aq,au]
 refine O.q 1 rfl<|O.nil<|S.ret results134 rfl fun w hw=>hR _ _ w ?_ hw;exact ⟨a4,gL,rfl,rfl⟩
theorem vr {r:Fr} {va:Value} {xs:List UInt8} (ha:aj ag.u8 r va xs) (hl:xs.length≤100000000000000) :
  ay prog 80 #[va] r [] (aM fun v U=>∃ a c,v=.slice a (bytesOf xs).length c∧U=[av ag.u8 5 v (bytesOf xs)]):=by
 refine ay.of (n:=9) _ rfl func80 rfl rfl rfl fun g hg R hR=>?_;have ha:=ha.mono hg;obtain ⟨a1,c1,rfl⟩:=ha.shape;refine S.seq<|S.region rfl<|O.q 1 rfl<|O.nil<|S.seq<|S.region rfl<|O.q 1 rfl<|O.op (.p rfl) (.len rfl underlying24 rfl)<|O.aC (.p rfl) rfl aa rfl rfl (j7 _) ?_;rintro _ _ ⟨a5,dM,rfl,rfl⟩
 try simp only [an,aq,au]
 refine O.q 1 rfl<|O.aO (.p rfl) (.cn (T:=ag.val) (ys:=[_,_]) underlying109 gr zE rfl rfl ⟨⟨rfl,rfl⟩,⟨rfl,rfl⟩,trivial⟩ zE) ?_;rintro _ _ ⟨a7,ia,rfl,rfl⟩;refine O.cU (.p rfl) rfl aa rfl rfl (bs:=[av ag.val 24 (.slice a7 2 ia) [.slice a5 8 dM,.slice a1 xs.length c1],av ag.u8 5 (.slice a5 8 dM) (be xs.length)]) aV (fun m hm hd=>AL (xss:=[be xs.length,xs]) ((hm.arr.right hd).rows ⟨hm.tail.arr.right hd,ha.left,trivial⟩) (by simp [yq];omega)) ?_;rintro _ _ ⟨a8,nN,rfl,rfl⟩
 try simp only [an,aq,au]
 refine O.q 1 rfl<|O.nil<|S.ret results80 rfl fun w hw=>hR _ _ w ?_ hw.fst;exact ⟨a8,nN,by simp [bytesOf],by simp [bytesOf]⟩
theorem VL {r:Fr} {va:Value} {xs:List UInt8} (ha:aj ag.u8 r va xs) (hl:xs.length≤140737488355328) :
  ay prog 343 #[va] r [] (aM fun v U=>∃ b a c,v=.pointer (some ⟨b,0,none⟩)∧U=[obj b 441 [.slice a xs.length c,.bool true,.bool false],av ag.u8 5 (.slice a xs.length c) xs]):=by
 refine ay.of (n:=8) _ rfl func343 rfl rfl rfl fun g hg R hR=>?_;have ha:=ha.mono hg;obtain ⟨a1,c1,rfl⟩:=ha.shape;refine S.seq<|S.region rfl<|O.q 1 rfl<|O.nil<|S.seq<|S.region rfl<|O.q 1 rfl<|O.aC (.p rfl) rfl aa rfl rfl (er (by first|assumption|exact aj.mono hg aB|exact aj.left aB|exact aj.left (aj.mono hg aB)) bL) ?_;rintro _ _ ⟨a4,gL,rfl,rfl⟩
 try simp only [an,aq,au]
 refine O.op (.p rfl) (.build (cs:=[_]) underlying439 rfl rfl rfl rfl rfl)<|O.op (.p rfl) (.build (cs:=[_,_,_]) underlying441 rfl rfl rfl rfl rfl)<|O.aO (.p rfl) (.box (cs:=[_,_,_]) rfl rfl) ?_;rintro _ _ ⟨mW,rfl,rfl⟩;refine O.q 1 rfl<|O.nil<|S.ret results343 rfl fun w hw=>hR _ _ w ?_ hw.Nh;exact ⟨mW,a4,gL,rfl,rfl⟩
theorem Ah {r:Fr} {b:Nat} {v:Value} {made bad:Bool}:ay prog 377 #[.pointer (some ⟨b,0,none⟩)] r [obj b 441 [v,.bool made,.bool bad]] (aM fun u U=>u=.bool (made && !bad)∧U=[obj b 441 [v,.bool made,.bool bad]]):=by
 refine ay.of (n:=18) _ rfl func377 rfl rfl rfl fun g hg R hR=>?_;refine S.seq<|S.region rfl<|O.q 1 rfl<|O.nil<|S.seq<|S.region rfl<|O.q 1 rfl<|O.op (.p rfl) (.xE underlying423 rfl rfl)<|O.q 2 rfl<|O.op (.g rfl rfl) (.nilCheck rfl)<|O.op (.g rfl rfl) (.aF Na rfl)<|O.op (.g rfl rfl) (.lo ic) ?_;refine O.q 2 rfl ?_
 first|refine O.dV 11 rfl (fun h11=>?_) (fun h11=>?_)|refine O.dF 11 rfl (fun h11=>?_) (fun h11=>?_)
 ·subst h11
  refine O.q 1 rfl<|O.op (.g rfl rfl) (.nilCheck rfl)<|O.op (.g rfl rfl) (.aF yZ rfl)<|O.op (.g rfl rfl) (.lo ic) ?_;refine O.op (.g rfl rfl) ((by first|exact .k7 rfl|exact .not rfl)) ?_;refine O.q 2 rfl<|O.nil<|S.ret results377 rfl fun w hw=>hR _ _ w ?_ hw;exact ⟨rfl,rfl⟩
 ·subst h11
  refine O.q 7 rfl<|O.nil<|S.ret results377 rfl fun w hw=>hR _ _ w ?_ hw;exact ⟨rfl,rfl⟩
theorem S_ {r:Fr} {b:Nat} {v:Value} {rest:List UInt8} {made bad:Bool} (ha:aj ag.u8 r v rest):ay prog 348 #[.pointer (some ⟨b,0,none⟩)] r [obj b 441 [v,.bool made,.bool bad]] (aM fun u U=>u=.bool (decide ((made && !bad)=true∧rest=[]))∧U=[obj b 441 [v,.bool made,.bool bad]]):=by
 refine ay.of (n:=14) _ rfl func348 rfl rfl rfl fun g hg R hR=>?_;obtain ⟨a1,c1,rfl⟩:=ha.shape;refine S.seq<|S.region rfl<|O.q 1 rfl<|O.nil<|S.seq<|S.region rfl<|O.q 1 rfl<|O.bD (.p rfl) rfl aa rfl rfl ai Ah ?_;rintro _ _ ⟨rfl,rfl⟩
 try simp only [an,aq,au]
 refine O.q 1 rfl ?_
 first|refine O.dV 5 rfl (fun h5=>?_) (fun h5=>?_)|refine O.dF 5 rfl (fun h5=>?_) (fun h5=>?_)
 ·refine O.q 1 rfl<|O.op (.g rfl rfl) (.nilCheck rfl)<|O.op (.g rfl rfl) (.aF uE rfl)<|O.op (.g rfl rfl) (.aF wo rfl)<|O.op (.g rfl rfl) (.lo bg) ?_
  refine O.op (.g rfl rfl) (.len rfl underlying24 rfl)<|O.op (.g rfl rfl) (.eql rfl rfl)<|O.q 2 rfl<|O.nil<|S.ret results348 rfl fun w hw=>hR _ _ w ?_ hw;refine ⟨?_,rfl⟩
  simp [h5]
 ·refine O.q 9 rfl<|O.nil<|S.ret results348 rfl fun w hw=>hR _ _ w ?_ hw
  refine ⟨?_,rfl⟩
  simp [h5]
def missing:List PanicEntry:=[{ v:=.iface 459 (.agg #[]),recovered:=false }]
theorem zQ {r:Fr} (b:Bool):ay prog 391 #[.bool b] r [] (ey (fun v U=>b=true∧v=.tuple #[]∧U=[]) (fun ch U=>b=false∧ch=missing∧U=[])):=by
 refine ay.of (n:=6) _ rfl func391 rfl rfl rfl fun g hg R hR=>?_;refine S.seq<|S.region rfl<|O.q 1 rfl<|O.op (.p rfl) ((by first|exact .k7 rfl|exact .not rfl)) ?_;refine O.nil ?_
 first|refine S.ct rfl (fun h3=>?_) (fun h3=>?_)|refine S.cm rfl (fun h3=>?_) (fun h3=>?_)
 ·refine S.region rfl<|O.op (.p rfl) (.build (cs:=[]) underlying459 rfl rfl rfl rfl rfl)<|O.op (.p rfl) (.I3 underlying459 rfl)<|O.panic rfl rfl (fun w hw=>?_)
  exact hR _ [] w ⟨by simpa using h3,rfl,rfl⟩ hw
 ·refine S.skip<|S.ej results391 fun w hw=>hR _ _ w ?_ hw
  exact ⟨by simpa using h3,rfl,rfl⟩
theorem E0 {r:Fr} {b T:Nat} {v:Value} {cs:List Value} {rest:List UInt8} (n:Int) (ha:aj ag.u8 r v rest) :
  ay prog 372 #[.pointer (some ⟨b,0,none⟩),.int .i64 n] r [obj b T (v::cs)]
   (ey (fun u U=>(0≤n∧n≤rest.length)∧∃ a c v',u=.slice a (rest.take n.toNat).length c∧aj ag.u8 r (.slice a (rest.take n.toNat).length c) (rest.take n.toNat)∧aj ag.u8 r v' (rest.drop n.toNat)∧U=[obj b T (v' ::cs)]) (fun ch U=>¬(0≤n∧n≤rest.length)∧ch=missing∧U=[obj b T (v::cs)])):=by
 refine ay.of (n:=34) _ rfl func372 rfl rfl rfl fun g hg R hR=>?_;have hbd:=ha.bound;obtain ⟨a1,c1,rfl⟩:=ha.shape;refine S.seq<|S.region rfl<|O.q 1 rfl<|O.nil<|S.seq<|S.region rfl<|O.q 1 rfl<|O.op (.p rfl) (.geq rfl rfl)<|O.q 1 rfl ?_
 first|refine O.dV 8 rfl (fun h8=>?_) (fun h8=>?_)|refine O.dF 8 rfl (fun h8=>?_) (fun h8=>?_)
 ·refine O.q 2 rfl<|O.op (.g rfl rfl) (.nilCheck rfl)<|O.op (.g rfl rfl) (.aF wo rfl)<|O.op (.g rfl rfl) (.lo bg) ?_
  refine O.op (.g rfl rfl) (.len rfl underlying24 rfl)<|O.op (.g rfl rfl) (.leq rfl rfl)<|O.q 1 rfl<|O.kH (.p rfl) rfl aa rfl rfl (zQ _) (fun ch ax w hX hW=>by (obtain ⟨hb,rfl,rfl⟩:=hX;exact hR _ _ w ⟨by simp at hb;omega,rfl,rfl⟩ hW)) ?_;rintro _ _ ⟨CS,rfl,rfl⟩
  try simp only [an,aq,au]
  have hb:0≤n∧n≤rest.length:=by simp at CS;omega
  refine O.nil<|S.seq<|S.region rfl<|O.q 1 rfl<|O.op (.p rfl) (.nilCheck rfl)<|O.op (.p rfl) (.aF wo rfl)<|O.op (.p rfl) (.lo bg) ?_;refine O.q 1 rfl<|O.sliceTo (b:=n.toNat) (.p rfl) underlying24 fL rfl rfl aB bL bL (fun YL Ho=>?_);obtain ⟨a23,Bt,rfl⟩:=Ho.shape;refine O.q 1 rfl<|O.nil<|S.seq<|S.region rfl<|O.q 2 rfl<|O.op (.p rfl) (.nilCheck rfl)<|O.op (.p rfl) (.aF wo rfl)<|O.op (.p rfl) (.lo bg) ?_;refine O.q 1 rfl<|O.sliceFrom (a:=n.toNat) (.p rfl) underlying24 fL rfl rfl aB bL bL (fun YN Hq=>?_);obtain ⟨Bf,Bv,rfl⟩:=Hq.shape;refine O.op (.p rfl) (.nilCheck rfl)<|O.op (.p rfl) (.aF wo rfl)<|O.bw rfl (.bk bg rfl rfl bn ai aT) ?_;refine O.nil<|S.seq<|S.region rfl<|O.q 2 rfl<|O.nil<|S.ret results372 rfl fun w hw=>hR _ _ w ?_ hw;exact ⟨hb,_,_,_,rfl,Ho,Hq,rfl⟩
 ·refine O.q 8 rfl<|O.kH (.p rfl) rfl aa rfl rfl (zQ _) (fun ch ax w hX hW=>by (obtain ⟨hb,rfl,rfl⟩:=hX;exact hR _ _ w ⟨by omega,rfl,rfl⟩ hW)) ?_
  rintro _ _ ⟨CS,rfl,rfl⟩
  try simp only [an,aq,au]
  exact absurd CS bq
theorem Sh {α:Type} {rest:List α} (h:(0:Int)≤1∧(1:Int)≤rest.length):∃ x xs,rest=x::xs:=by
 cases rest with
 |nil=>simp at h
 |cons x xs=>exact ⟨x,xs,rfl⟩
theorem R8 {α:Type} {rest:List α} (h:¬((0:Int)≤1∧(1:Int)≤rest.length)):rest=[]:=by
 cases rest with
 |nil=>rfl
 |cons x xs=>simp at h;omega
theorem Sg {r:Fr} {b T:Nat} {v:Value} {cs:List Value} {rest:List UInt8} (ha:aj ag.u8 r v rest) :
  ay prog 369 #[.pointer (some ⟨b,0,none⟩)] r [obj b T (v::cs)]
   (ey (fun u U=>∃ x xs v',rest=x::xs∧u=bH x∧aj ag.u8 r v' xs∧U=[obj b T (v' ::cs)]) (fun ch U=>rest=[]∧ch=missing∧U=[obj b T (v::cs)])):=by
 refine ay.of (n:=7) _ rfl func369 rfl rfl rfl fun g hg R hR=>?_;refine S.seq<|S.region rfl<|O.q 1 rfl<|O.nil<|S.seq<|S.region rfl<|O.q 1 rfl<|O.qd (.p rfl) rfl aa rfl rfl ai ((E0 1 ha).sub hg) (fun ch ax w hX hW=>by (obtain ⟨hb,rfl,rfl⟩:=hX;exact hR _ _ w ⟨R8 hb,rfl,rfl⟩ hW)) ?_;rintro v4 _ ⟨hb4,a4,gL,v4,rfl,WY,NG,rfl⟩
 try simp only [an,aq,au]
 obtain ⟨x,xs,rfl⟩:∃ x xs,rest=x::xs:=Sh hb4;refine O.b_ (.p rfl) underlying24 fL rfl rfl (show _=((0:Nat):Int) from rfl) (by first|assumption|exact aj.mono hg aB|exact aj.left aB|exact aj.left (aj.mono hg aB)) (h:=fun Yq Wt OS Pc=>?_)
 cases Pc
 refine O.op (.p rfl) (.loadAt kX rfl OS rfl) ?_;refine O.q 1 rfl<|O.nil<|S.ret results369 rfl fun w hw=>hR _ _ w ?_ hw;exact ⟨x,xs,_,rfl,rfl,NG,rfl⟩
theorem Jl {r:Fr} {b T:Nat} {v:Value} {cs:List Value} {rest:List UInt8} (ha:aj ag.u8 r v rest) :
  ay prog 375 #[.pointer (some ⟨b,0,none⟩)] r [obj b T (v::cs)]
   (ey (fun u U=>8≤rest.length∧∃ v',u=.int .i64 (eP rest)∧aj ag.u8 r v' (rest.drop 8)∧U=[obj b T (v' ::cs)]) (fun ch U=>rest.length<8∧ch=missing∧U=[obj b T (v::cs)])):=by
 refine ay.of (n:=21) _ rfl func375 rfl rfl rfl fun g hg R hR=>?_;refine S.seq<|S.region rfl<|O.q 1 rfl<|O.nil<|S.seq<|S.region rfl<|O.q 1 rfl<|O.nil<|S.seq<|S.seq<|S.region rfl<|O.q 1 rfl<|O.qd (.p rfl) rfl aa rfl rfl ai ((E0 8 ha).sub hg) (fun ch ax w hX hW=>by (obtain ⟨hb,rfl,rfl⟩:=hX;exact hR _ _ w ⟨by omega,rfl,rfl⟩ hW)) ?_;rintro l9 _ ⟨W4,a7,ia,l9,rfl,uP,NN,rfl⟩
 try simp only [an,aq,au]
 refine O.op (.p rfl) (.len rfl underlying24 rfl)<|O.q 1 rfl<|O.nil (S.block ?_);have HP:(rest.take (Int.toNat 8)).length=8:=by simp;omega
 refine S.fT (ι:=Nat) (fun i=>i≤8) (fun i=>[(9,.int .i64 (i:Int)),(3,.int .u64 (mX (rest.take i):Nat))]) [(7,_),(8,_)] (fun i=>[obj b T (l9::cs)]) (fun i=>8 - i) (0) bq (.cons rfl (.cons rfl (.nil))) (.cons rfl (.cons rfl (.nil))) rfl fun i hx ih=>?_;have bl:=cW (g:=g);refine S.seq<|S.region rfl<|O.op (.p rfl) (.lss rfl rfl)<|O.nil (S.seq ?_)
 first|refine S.ct rfl (fun h10=>?_) (fun h10=>?_)|refine S.cm rfl (fun h10=>?_) (fun h10=>?_)
 ·have hi:i<8:=by omega
  refine S.skip<|S.seq<|S.block<|S.seq<|S.region rfl<|O.b_ (.p rfl) underlying24 fL rfl rfl rfl (by first|assumption|exact aj.mono hg aB|exact aj.left aB|exact aj.left (aj.mono hg aB)) (h:=fun SB Mv Db HX=>?_)
  cases HX
  refine O.op (.p rfl) (.loadAt kX rfl Db rfl) ?_;refine O.q 1 rfl<|O.nil<|S.region rfl<|O.q 1 rfl<|O.op (.p rfl) (.shl rfl rfl ah)<|O.q 1 rfl<|O.op (.p rfl) (.lD underlying5 underlying274 rfl)<|O.op (.p rfl) (.or rfl rfl)<|O.q 1 rfl<|O.nil<|S.inBlock<|S.region rfl<|O.op (.p rfl) (.add rfl rfl (IntWalk.i64_in _ ah))<|O.q 1 rfl<|O.nil ?_;rw [Sx _ _ (Lz rest i hi),show (rest.take (Int.toNat 8))[i]=rest[i] from by simp,← F3 rest i ah];exact S.dH (ih (i+1) ah ah)
 ·have hi:i=8:=by omega
  subst hi;refine S.exit rfl<|S.seq<|S.region rfl<|O.q 1 rfl<|O.op (.p rfl) (.lD underlying274 underlying3 rfl)<|O.q 1 rfl<|O.nil<|S.ret results375 rfl fun w hw=>hR _ _ w ?_ hw;exact ⟨by omega,l9,by rw [VQ _ (Nat.lt_of_lt_of_le (Bm rest 8) zE)];rfl,NN,rfl⟩
theorem Ix {r:Fr} (x:Int):ay prog 330 #[.int .i64 x] r [] (aM fun v U=>v=.bool false∧U=[]):=by
 refine ay.of (n:=6) _ rfl func330 rfl rfl rfl fun g hg R hR=>?_;refine S.seq<|S.region rfl<|O.q 1 rfl<|O.nil<|S.seq<|S.region rfl<|O.q 2 rfl<|O.op (.p rfl) (.neq rfl rfl)<|O.aL 5 rfl bq ?_;refine O.q 1 rfl<|O.nil ?_;exact S.rt results330 rfl hR ⟨rfl,rfl⟩
theorem BP {r:Fr} (x y:Int):ay prog 294 #[.int .i64 x,.int .i64 y] r [] (aM fun v U=>v=.int .i64 (kj x y)∧U=[]):=by
 refine ay.of (n:=20) _ rfl func294 rfl rfl rfl fun g hg R hR=>?_;refine S.seq<|S.region rfl<|O.q 1 rfl<|O.nil<|S.seq<|S.region rfl<|O.q 1 rfl<|O.aC (.p rfl) rfl aa rfl rfl (Ix _) ?_;rintro _ _ ⟨rfl,rfl⟩
 try simp only [an,aq,au]
 refine O.q 1 rfl<|O.nil<|S.seq<|S.region rfl<|O.q 1 rfl<|O.aC (.p rfl) rfl aa rfl rfl (Ix _) ?_;rintro _ _ ⟨rfl,rfl⟩
 try simp only [an,aq,au]
 refine O.q 1 rfl<|O.nil<|S.seq<|S.seq<|S.region rfl<|O.q 1 rfl<|O.nil<|S.aP rfl<|S.skip<|S.seq<|S.seq<|S.region rfl<|O.q 1 rfl<|O.nil<|S.aP rfl<|S.skip<|S.seq<|S.seq<|S.region rfl<|O.q 2 rfl<|O.op (.p rfl) (.lss rfl rfl)<|O.nil ?_
 first|refine S.ct rfl (fun e7=>?_) (fun e7=>?_)|refine S.cm rfl (fun e7=>?_) (fun e7=>?_)
 ·refine S.seq<|S.region rfl<|O.q 1 rfl<|O.nil ?_
  exact S.rt results294 rfl hR ⟨by simp [kj,e7],rfl⟩
 ·refine S.skip<|S.seq<|S.seq<|S.region rfl<|O.q 2 rfl<|O.op (.p rfl) (.gtr rfl rfl)<|O.nil ?_
  first|refine S.ct rfl (fun sQ=>?_) (fun sQ=>?_)|refine S.cm rfl (fun sQ=>?_) (fun sQ=>?_)
  ·refine S.seq<|S.region rfl<|O.q 1 rfl<|O.nil ?_
   exact S.rt results294 rfl hR ⟨by simp only [kj];rw [if_neg ah,if_pos ah],rfl⟩
  ·refine S.skip<|S.seq<|S.region rfl<|O.q 1 rfl<|O.nil ?_
   exact S.rt results294 rfl hR ⟨by simp only [kj];rw [if_neg ah,if_neg ah],rfl⟩
def ng:List Int→Int
 |[]=>0
 |x::l=>if x≠0 then x else ng l
theorem M3 {l:List Int} {i:Nat} (h:i<l.length):ng (l.drop i)=if l[i]≠0 then l[i] else ng (l.drop (i+1)):=by
 rw [List.drop_eq_getElem_cons h];rfl
theorem L_ {r:Fr} {va:Value} {l:List Int} (ha:aj ag.i64 r va l):ay prog 293 #[va] r [] (aM fun v U=>v=.int .i64 (ng l)∧U=[]):=by
 refine ay.of (n:=18) _ rfl func293 rfl rfl rfl fun g hg R hR=>?_;have ha:=ha.mono hg;have hbd:=ha.bound;obtain ⟨a1,c1,rfl⟩:=ha.shape;refine S.seq<|S.region rfl<|O.q 1 rfl<|O.nil<|S.seq<|S.region rfl<|O.q 1 rfl<|O.nil<|S.seq<|S.seq<|S.region rfl<|O.q 1 rfl<|O.op (.p rfl) (.len rfl underlying104 rfl)<|O.q 1 rfl<|O.nil<|S.block<|S.fT (ι:=Nat) (fun i=>i≤l.length∧ng (l.drop i)=ng l) (fun i=>[(8,.int .i64 (i:Int))]) [(3,_),(6,_),(7,_)] (fun i=>[]) (fun i=>l.length - i) (0) bq (.cons rfl (.nil)) (.cons rfl (.cons rfl (.cons rfl (.nil)))) rfl fun i hx ih=>?_;have bl:=cW (g:=g);obtain ⟨hx1,hx2⟩:=hx;refine S.seq<|S.region rfl<|O.op (.p rfl) (.lss rfl rfl)<|O.nil (S.seq ?_)
 first|refine S.ct rfl (fun h9=>?_) (fun h9=>?_)|refine S.cm rfl (fun h9=>?_) (fun h9=>?_)
 ·have hi:i<l.length:=by omega
  rw [M3 hi] at hx2;refine S.skip<|S.seq<|S.block<|S.seq<|S.region rfl<|O.b_ (.p rfl) underlying104 tQ rfl rfl rfl (by first|assumption|exact aj.mono hg aB|exact aj.left aB|exact aj.left (aj.mono hg aB)) (h:=fun z7 yD lM lQ=>?_);obtain ⟨rfl,XI⟩:=lQ;refine O.op (.p rfl) (.loadAt cv rfl lM rfl) ?_;refine O.q 1 rfl<|O.nil<|S.seq<|S.region rfl<|O.q 2 rfl<|O.op (.p rfl) (.neq rfl rfl)<|O.nil ?_
  first|refine S.ct rfl (fun jh=>?_) (fun jh=>?_)|refine S.cm rfl (fun jh=>?_) (fun jh=>?_)
  ·rw [if_pos jh] at hx2
   clear ih;refine S.seq<|S.region rfl<|O.q 2 rfl<|O.nil ?_;exact S.rt results293 rfl hR ⟨by rw [hx2],rfl⟩
  ·rw [if_neg jh] at hx2
   refine S.skip<|S.inBlock<|S.region rfl<|O.op (.p rfl) (.add rfl rfl (IntWalk.i64_in _ ah))<|O.q 1 rfl<|O.nil ?_;exact S.dH (ih (i+1) (by exact ⟨by omega,hx2⟩) ah)
 ·clear ih
  have hi:i=l.length:=by omega
  subst hi;rw [List.drop_length] at hx2;refine S.exit rfl<|S.seq<|S.region rfl<|O.q 2 rfl<|O.nil ?_;exact S.rt results293 rfl hR ⟨by rw [← hx2];rfl,rfl⟩
theorem Gp {r:Fr} {e:TypeId} {va:Value} {l:List Int}:ay prog 293 #[va] r [av ag.i64 e va l] (aM fun v U=>v=.int .i64 (ng l)∧U=[]) :=
 ay.tv (U:=[]) (bs:=[_]) fun _ hm hd=>L_ (hm.arr.right hd)
theorem x9 {r:Fr} {a b:Int} (d:dn) (h:d=(a,b,())):ay prog 356 #[.agg #[.int .i64 a,.int .i64 b]] r [] (aM fun v U=>v=.bool (mh d)∧U=[]):=by
 subst h;refine ay.of (n:=21) _ rfl func356 rfl rfl rfl fun g hg R hR=>?_;refine S.seq<|S.region rfl<|O.aO (.p rfl) (.box (cs:=[_,_]) rfl rfl) ?_;rintro _ _ ⟨b1,rfl,rfl⟩;refine O.q 1 rfl<|O.nil<|S.seq<|S.region rfl<|O.op (.p rfl) (.aF sN rfl)<|O.op (.p rfl) (.lo cv) ?_;refine O.op (.p rfl) (.geq rfl rfl)<|O.q 1 rfl ?_
 first|refine O.dV 6 rfl (fun h6=>?_) (fun h6=>?_)|refine O.dF 6 rfl (fun h6=>?_) (fun h6=>?_)
 ·refine O.op (.g rfl rfl) (.aF sN rfl)<|O.op (.g rfl rfl) (.lo cv) ?_
  refine O.op (.g rfl rfl) (.leq rfl rfl)<|O.q 2 rfl ?_
  first|refine O.dV 11 rfl (fun h11=>?_) (fun h11=>?_)|refine O.dF 11 rfl (fun h11=>?_) (fun h11=>?_)
  ·refine O.op (.g rfl rfl) (.aF wm rfl)<|O.op (.g rfl rfl) (.lo cv) ?_
   refine O.op (.g rfl rfl) (.geq rfl rfl)<|O.q 2 rfl ?_
   first|refine O.dV 16 rfl (fun e7=>?_) (fun e7=>?_)|refine O.dF 16 rfl (fun e7=>?_) (fun e7=>?_)
   ·refine O.op (.g rfl rfl) (.aF wm rfl)<|O.op (.g rfl rfl) (.lo cv) ?_
    refine O.op (.g rfl rfl) (.leq rfl rfl)<|O.q 2 rfl<|O.nil ?_;exact S.rt results356 rfl hR ⟨congrArg _ (decide_eq_decide.2 (by simp only [true_and,and_true];omega)),rfl⟩
   ·refine O.q 5 rfl<|O.nil ?_
    exact S.rt results356 rfl hR ⟨congrArg _ (decide_eq_false (by simp only [];omega)).symm,rfl⟩
  ·refine O.q 10 rfl<|O.nil ?_
   exact S.rt results356 rfl hR ⟨congrArg _ (decide_eq_false (by simp only [];omega)).symm,rfl⟩
 ·refine O.q 15 rfl<|O.nil ?_
  exact S.rt results356 rfl hR ⟨congrArg _ (decide_eq_false (by simp only [];omega)).symm,rfl⟩
theorem MO {r:Fr} {va:Value} {v:List dn} (ha:aj dm r va v):ay prog 382 #[va] r [] (aM fun u U=>u=.bool (jL v)∧U=[]):=by
 refine ay.of (n:=31) _ rfl func382 rfl rfl rfl fun g hg R hR=>?_;have ha:=ha.mono hg;have hbd:=ha.bound;obtain ⟨a1,c1,rfl⟩:=ha.shape;refine S.seq<|S.region rfl<|O.q 1 rfl<|O.nil<|S.seq<|S.seq<|S.region rfl<|O.q 1 rfl<|O.op (.p rfl) (.len rfl underlying428 rfl)<|O.q 1 rfl<|O.nil<|S.block<|S.fT (ι:=Nat) (fun k=>k≤v.length∧jL (v.take k)=true) (fun k=>[(7,.int .i64 (k:Int))]) [(0,_),(5,_),(6,_)] (fun k=>[]) (fun k=>v.length - k) (0) (by exact ⟨by simp,rfl⟩) (.cons rfl (.nil)) (.cons rfl (.cons rfl (.cons rfl (.nil)))) rfl fun k hx ih=>?_;have bl:=cW (g:=g);obtain ⟨hx1,hx2⟩:=hx;refine S.seq<|S.region rfl<|O.op (.p rfl) (.lss rfl rfl)<|O.nil (S.seq ?_)
 first|refine S.ct rfl (fun h8=>?_) (fun h8=>?_)|refine S.cm rfl (fun h8=>?_) (fun h8=>?_)
 ·have hk:k<v.length:=by omega
  have hst:=VH hk hx2
  by_cases hd:mh v[k]=true
  ·by_cases h0:k=0
   ·
    refine S.skip<|S.seq<|S.block<|S.seq<|S.region rfl<|O.q 1 rfl<|O.b_ (.p rfl) underlying428 sg rfl rfl rfl (by first|assumption|exact aj.mono hg aB|exact aj.left aB|exact aj.left (aj.mono hg aB)) (h:=fun z7 yD lM lQ=>?_);obtain ⟨rfl,HK,HL⟩:=dm.open lQ;refine O.op (.p rfl) (.bI isAgg191 aa rfl lM) ?_;refine O.aO (.p rfl) (.alloc (cs:=[.int .i64 0,.int .i64 0]) zeroValue191 rfl) ?_;rintro _ _ ⟨b4,rfl,rfl⟩;refine O.q 1 rfl<|O.bw rfl (.cZ aa rfl rfl rfl rfl ai aT) ?_;refine O.nil<|S.seq<|S.cV ai fun g hs hm h4=>?_;replace hg:=Fr.aI hg hs;replace hR:=bt hR hm
    try replace ha:=ha.mono hs
    try replace lM:=lM.mono hs
    try replace lQ:=lQ.mono hs
    replace bl:=eD bl hm;clear hs hm;refine S.bB (L:=[0,1,2,3,4,5,6,7,8,9,10,11,12,13,14,15,16,17]) bx aa ?_;refine .quiet (.p rfl) rfl (fun _=>.bI isAgg191 aa rfl h4) ?_;refine af.aC (.p rfl) aa rfl aa rfl rfl (x9 v[k] rfl) ?_;rintro _ _ ⟨rfl,rfl⟩
    try simp only [an,aq,au]
    refine af.sT 13 rfl (by exact hd) ?_;refine .quiet (.p rfl) rfl (fun _=>.not rfl)<|af.q 2 rfl<|.quiet (.g rfl rfl) rfl (fun _=>.gtr rfl rfl)<|af.aL 17 rfl bX ?_;refine af.q 12 rfl<|aK.nil<|S.aP rfl<|S.skip<|S.inBlock<|S.region rfl<|O.op (.p rfl) (.add rfl rfl (IntWalk.i64_in _ ah))<|O.q 1 rfl<|O.nil ?_;exact S.iR bl (S.dH (ih (k+1) (by exact ⟨by omega,hst.2 ⟨hd,fun h=>absurd h ah⟩⟩) ah))
   ·have nX:k - 1<v.length:=by omega
    refine S.skip<|S.seq<|S.block<|S.seq<|S.region rfl<|O.q 1 rfl<|O.b_ (.p rfl) underlying428 sg rfl rfl rfl (by first|assumption|exact aj.mono hg aB|exact aj.left aB|exact aj.left (aj.mono hg aB)) (h:=fun z7 yD lM lQ=>?_);obtain ⟨rfl,HK,HL⟩:=dm.open lQ;refine O.op (.p rfl) (.bI isAgg191 aa rfl lM) ?_;refine O.aO (.p rfl) (.alloc (cs:=[.int .i64 0,.int .i64 0]) zeroValue191 rfl) ?_;rintro _ _ ⟨b4,rfl,rfl⟩;refine O.q 1 rfl<|O.bw rfl (.cZ aa rfl rfl rfl rfl ai aT) ?_;refine O.nil<|S.seq<|S.cV ai fun g hs hm h4=>?_;replace hg:=Fr.aI hg hs;replace hR:=bt hR hm
    try replace ha:=ha.mono hs
    try replace lM:=lM.mono hs
    try replace lQ:=lQ.mono hs
    replace bl:=eD bl hm;clear hs hm;refine S.bB (L:=[0,1,2,3,4,5,6,7,8,9,10,11,12,13,14,15,16,17]) bx aa ?_;refine .quiet (.p rfl) rfl (fun _=>.bI isAgg191 aa rfl h4) ?_;refine af.aC (.p rfl) aa rfl aa rfl rfl (x9 v[k] rfl) ?_;rintro _ _ ⟨rfl,rfl⟩
    try simp only [an,aq,au]
    refine af.sT 13 rfl (by exact hd) ?_;refine .quiet (.p rfl) rfl (fun _=>.not rfl)<|af.q 2 rfl<|.quiet (.g rfl rfl) rfl (fun _=>.gtr rfl rfl)<|af.sT 17 rfl bX ?_;refine af.q 3 rfl<|.quiet (.g rfl rfl) rfl (fun _=>.sub rfl rfl (IntWalk.i64_in _ ah))<|af.b_ (.g rfl rfl) underlying428 sg rfl rfl (show _=(((k - 1):Nat):Int) by omega) (by first|assumption|exact aj.mono hg aB|exact aj.left aB|exact aj.left (aj.mono hg aB)) (h:=fun Yi Wl OM O7=>?_);obtain ⟨rfl,Xa,Xf⟩:=dm.open O7;refine .quiet (.g rfl rfl) rfl (fun _=>.fieldAddr sN rfl)<|.quiet (.g rfl rfl) rfl (fun _=>.loadAt cv rfl OM rfl) ?_;refine .quiet (.g rfl rfl) rfl (fun _=>.fieldAddr sN rfl)<|.quiet (.g rfl rfl) rfl (fun _=>.loadAt cv rfl h4 rfl) ?_;refine .quiet (.g rfl rfl) rfl (fun _=>.geq rfl rfl)<|af.q 2 rfl<|aK.nil ?_
    first|refine S.ct rfl (fun Cl=>?_) (fun Cl=>?_)|refine S.cm rfl (fun Cl=>?_) (fun Cl=>?_)
    ·refine S.seq<|S.region rfl<|O.q 1 rfl<|O.nil<|S.ret results382 rfl fun w hw=>Holds.end_ hR hw ?_
     refine ⟨_,⟨?_,rfl⟩,by repeat (first|exact aW|exact aY|(apply aX;focus (repeat (first|exact aU|apply zt)))|apply aZ)⟩
     congr 1;symm
     refine KQ (i:=k+1) ?_;rw [Bool.eq_false_iff]
     intro e
     have:=(hst.1 e).2 ah
     omega
    ·refine S.skip<|S.inBlock<|S.region rfl<|O.op (.p rfl) (.add rfl rfl (IntWalk.i64_in _ ah))<|O.q 1 rfl<|O.nil ?_
     exact S.iR bl (S.dH (ih (k+1) (by exact ⟨by omega,hst.2 ⟨hd,fun _=>by omega⟩⟩) ah))
  ·have lJ :mh v[k]=false:=by simpa using hd
   refine S.skip<|S.seq<|S.block<|S.seq<|S.region rfl<|O.q 1 rfl<|O.b_ (.p rfl) underlying428 sg rfl rfl rfl (by first|assumption|exact aj.mono hg aB|exact aj.left aB|exact aj.left (aj.mono hg aB)) (h:=fun z7 yD lM lQ=>?_);obtain ⟨rfl,HK,HL⟩:=dm.open lQ;refine O.op (.p rfl) (.bI isAgg191 aa rfl lM) ?_;refine O.aO (.p rfl) (.alloc (cs:=[.int .i64 0,.int .i64 0]) zeroValue191 rfl) ?_;rintro _ _ ⟨b4,rfl,rfl⟩;refine O.q 1 rfl<|O.bw rfl (.cZ aa rfl rfl rfl rfl ai aT) ?_;refine O.nil<|S.seq<|S.cV ai fun g hs hm h4=>?_;replace hg:=Fr.aI hg hs;replace hR:=bt hR hm
   try replace ha:=ha.mono hs
   try replace lM:=lM.mono hs
   try replace lQ:=lQ.mono hs
   replace bl:=eD bl hm;clear hs hm;refine S.bB (L:=[0,1,2,3,4,5,6,7,8,9,10,11,12,13,14,15,16,17]) bx aa ?_;refine .quiet (.p rfl) rfl (fun _=>.bI isAgg191 aa rfl h4) ?_;refine af.aC (.p rfl) aa rfl aa rfl rfl (x9 v[k] rfl) ?_;rintro _ _ ⟨rfl,rfl⟩
   try simp only [an,aq,au]
   refine af.aL 13 rfl (by exact lJ) ?_;refine .quiet (.p rfl) rfl (fun _=>.not rfl)<|af.q 15 rfl<|aK.nil<|S.bC rfl<|S.seq<|S.region rfl<|O.q 1 rfl<|O.nil ?_;clear ih;refine S.ret results382 rfl fun w hw=>Holds.end_ hR hw ?_;refine ⟨_,⟨?_,rfl⟩,by repeat (first|exact aW|exact aY|(apply aX;focus (repeat (first|exact aU|apply zt)))|apply aZ)⟩
   congr 1;symm
   refine KQ (i:=k+1) ?_;rw [Bool.eq_false_iff]
   intro e
   exact hd (hst.1 e).1
 ·clear ih
  have hk:k=v.length:=by omega
  subst hk;rw [List.take_length] at hx2;refine S.exit rfl<|S.seq<|S.region rfl<|O.q 1 rfl<|O.nil ?_;exact S.rt results382 rfl hR ⟨by rw [hx2],rfl⟩
theorem FW {r:Fr} {a b c:Int}:ay prog 395 #[.agg #[.int .i64 a,.int .i64 b],.int .i64 c] r [] (aM fun u U=>u=.int .i64 (kj a c)∧U=[]):=by
 refine ay.of (n:=9) _ rfl func395 rfl rfl rfl fun g hg R hR=>?_;refine S.seq<|S.region rfl<|O.aO (.p rfl) (.box (cs:=[_,_]) rfl rfl) ?_;rintro _ _ ⟨b2,rfl,rfl⟩;refine O.q 1 rfl<|O.nil<|S.seq<|S.region rfl<|O.op (.p rfl) (.aF sN rfl)<|O.op (.p rfl) (.lo cv) ?_;refine O.q 1 rfl<|O.aC (.p rfl) rfl aa rfl rfl (BP _ _) ?_;rintro _ _ ⟨rfl,rfl⟩
 try simp only [an,aq,au]
 refine O.q 1 rfl<|O.nil ?_;exact S.rt results395 rfl hR ⟨rfl,rfl⟩
theorem Hv {s:Nat} (h:s≤18446744073709551614 / 2):IntKind.i64.wrap ((IntKind.u64.wrap (s:Int)).fdiv (2 ^ min (1:Int).toNat IntKind.u64.bits))=((s / 2:Nat):Int):=by
 have e:IntKind.u64.wrap (s:Int)=(s:Int):=by rw [t_];unfold u64;omega
 rw [e,IntKind.wrap_i64];have:(2:Int) ^ min (1:Int).toNat IntKind.u64.bits=2:=by decide
 rw [this];have h2:(s:Int).fdiv 2=((s / 2:Nat):Int):=by rw [Int.fdiv_eq_ediv_of_nonneg _ ah];omega
 rw [h2];omega
theorem LM {r:Fr} {va:Value} {v:List dn} (c:Int) (ha:aj dm r va v) (hv:sy v) (hl:v.length≤1000000000000):ay prog 394 #[va,.int .i64 c,.func (.func 395) #[] #[]] r []
  (aM fun u U=>∃ (k:Nat) (b:Bool),u=.tuple #[.int .i64 (k:Int),.bool b]∧k≤v.length∧(b=true→∃ h:k<v.length,v[k].1=c)∧(b=false→∀ i (hi:i<v.length),v[i].1≠c)∧U=[]):=by
 refine ay.of (n:=49) _ rfl func394 rfl rfl rfl fun g hg R hR=>?_;have ha:=ha.mono hg;obtain ⟨a1,c1,rfl⟩:=ha.shape;have hlt:∀ i j (hi:i<v.length) (hj:j<v.length),i<j→v[i].1<v[j].1:=fun i j hi hj h=>List.pairwise_iff_getElem.1 hv i j hi hj h;refine S.seq<|S.region rfl<|O.q 2 rfl<|O.nil<|S.seq<|S.region rfl<|O.q 1 rfl<|O.op (.p rfl) (.len rfl underlying428 rfl)<|O.q 1 rfl<|O.nil<|S.seq<|S.region rfl<|O.q 3 rfl<|O.nil<|S.seq<|S.block<|S.jG (ι:=Nat) (dB:=Nat) (fun i j=>i≤j∧j≤v.length∧(∀ q (hq:q<v.length),q<i→v[q].1<c)∧(∀ q (hq:q<v.length),j≤q→c≤v[q].1)) (fun i j=>[(9,.int .i64 (i:Int)),(10,.int .i64 (j:Int))]) [(0,_),(1,_),(2,_),(8,_)] (fun i j=>[]) (fun i j=>j - i) (0) (v.length) (by exact ⟨by omega,by omega,fun q _ h=>absurd h ah,fun q hq h=>absurd hq ah⟩) (.cons rfl (.cons rfl (.nil))) (.cons rfl (.cons rfl (.cons rfl (.cons rfl (.nil))))) rfl fun i j hx ih=>?_;have bl:=cW (g:=g);obtain ⟨hij,hjl,hlo,hhi⟩:=hx;refine S.seq<|S.seq<|S.region rfl<|O.q 2 rfl<|O.op (.p rfl) (.lss rfl rfl)<|O.nil ?_
 first|refine S.ct rfl (fun jW=>?_) (fun jW=>?_)|refine S.cm rfl (fun jW=>?_) (fun jW=>?_)
 ·have hm:(i+j) / 2<v.length:=by omega
  have mu:kj v[(i+j) / 2].1 c<0↔v[(i+j) / 2].1<c:=by unfold kj;split<;>(try split)<;>omega
  refine S.skip<|S.block<|S.seq<|S.region rfl<|O.q 2 rfl<|O.op (.p rfl) (.add rfl rfl (IntWalk.i64_in _ ah))<|O.op (.p rfl) (.lD underlying3 underlying197 rfl)<|O.op (.p rfl) (.shr rfl rfl ah)<|O.op (.p rfl) (.lD underlying197 underlying3 rfl)<|O.slot 23 (v' :=.int .i64 (((i+j) / 2:Nat):Int)) rfl (by exact congrArg _ (Hv (s:=i+j) ah)) ?_;refine O.q 1 rfl<|O.nil<|S.seq<|S.region rfl<|O.q 3 rfl<|O.b_ (.p rfl) underlying428 sg rfl rfl (show _=((((i+j) / 2):Nat):Int) by omega) (by first|assumption|exact aj.mono hg aB|exact aj.left aB|exact aj.left (aj.mono hg aB)) (h:=fun SD My Df Dv=>?_);obtain ⟨rfl,Xb,Xg⟩:=dm.open Dv;refine O.op (.p rfl) (.bI isAgg191 aa rfl Df) ?_;refine O.q 1 rfl<|O.aC (.p rfl) rfl aa rfl rfl (FW) ?_;rintro _ _ ⟨rfl,rfl⟩
  try simp only [an,aq,au]
  refine O.op (.p rfl) (.lss rfl rfl)<|O.nil ?_
  first|refine S.ct rfl (fun ji=>?_) (fun ji=>?_)|refine S.cm rfl (fun ji=>?_) (fun ji=>?_)
  ·have hc:=mu.1 ji
   refine S.region rfl<|O.q 1 rfl<|O.op (.p rfl) (.add rfl rfl (IntWalk.i64_in _ ah))<|O.q 1 rfl<|O.nil (S.inBlock ?_);exact S.dH (ih ((i+j) / 2+1) (j) (by (refine ⟨by omega,by omega,fun q hq h=>?_,hhi⟩;by_cases e:q=(i+j) / 2;(subst e;exact hc);(have:=hlt q ((i+j) / 2) hq hm ah;omega))) ah)
  ·have hc:c≤v[(i+j) / 2].1:=by have:=mt mu.2 ji;omega
   refine S.region rfl<|O.q 2 rfl<|O.nil (S.inBlock ?_);exact S.dH (ih (i) ((i+j) / 2) (by (refine ⟨by omega,by omega,hlo,fun q hq h=>?_⟩;by_cases e:q=(i+j) / 2;(subst e;exact hc);(have:=hlt ((i+j) / 2) q hm hq ah;omega))) ah)
 ·clear ih
  have e:i=j:=by omega
  subst e
  by_cases hi:i<v.length
  ·
   have hc:=hhi i hi (Nat.le_refl _);have mu:kj v[i].1 c=0↔v[i].1=c:=by unfold kj;split<;>(try split)<;>omega
   refine S.exit rfl<|S.seq<|S.region rfl<|O.q 3 rfl<|O.op (.p rfl) (.lss rfl rfl)<|O.sT 38 rfl bX ?_;refine O.q 4 rfl<|O.b_ (.g rfl rfl) underlying428 sg rfl rfl rfl (by first|assumption|exact aj.mono hg aB|exact aj.left aB|exact aj.left (aj.mono hg aB)) (h:=fun Eo BU td th=>?_);obtain ⟨rfl,Xd,Xi⟩:=dm.open th;refine O.op (.g rfl rfl) (.bI isAgg191 aa rfl td) ?_;refine O.q 1 rfl<|O.aC (.g rfl rfl) rfl aa rfl rfl (FW) ?_;rintro _ _ ⟨rfl,rfl⟩
   try simp only [an,aq,au]
   refine O.op (.g rfl rfl) (.eql rfl rfl)<|O.q 3 rfl<|O.nil<|S.lg results394 rfl rfl fun w hw=>Holds.end_ hR hw ?_;refine ⟨_,⟨i,_,rfl,hjl,fun hb=>⟨hi,mu.1 (by simpa using hb)⟩,fun hb q hq e=>?_,rfl⟩,by repeat (first|exact aW|exact aY|(apply aX;focus (repeat (first|exact aU|apply zt)))|apply aZ)⟩;have hne:¬ v[i].1=c:=fun e2=>by simp [mu.2 e2] at hb
   rcases Nat.lt_trichotomy q i with h|h|h
   ·have:=hlo q hq h;omega
   ·subst h;exact hne e
   ·have:=hlt i q hi hq h;omega
  ·
   refine S.exit rfl<|S.seq<|S.region rfl<|O.q 3 rfl<|O.op (.p rfl) (.lss rfl rfl)<|O.aL 38 rfl bX ?_;refine O.q 12 rfl<|O.nil<|S.lg results394 rfl rfl fun w hw=>Holds.end_ hR hw ?_;exact pk ⟨i,false,rfl,hjl,fun h=>(by cases h),fun _ q hq e=>by have:=hlo q hq ah;omega,rfl⟩
theorem Lo {r:Fr} {va:Value} {v:List dn} (c:Int) (ha:aj dm r va v) (hv:sy v) (hl:v.length≤1000000000000):ay prog 383 #[va,.int .i64 c] r []
  (aM fun u U=>∃ (k:Nat) (b:Bool),u=.tuple #[.int .i64 (k:Int),.bool b]∧k≤v.length∧(b=true→∃ h:k<v.length,v[k].1=c)∧(b=false→∀ i (hi:i<v.length),v[i].1≠c)∧U=[]):=by
 refine ay.of (n:=11) _ rfl func383 rfl rfl rfl fun g hg R hR=>?_;have ha:=ha.mono hg;refine S.seq<|S.region rfl<|O.q 2 rfl<|O.nil<|S.seq<|S.region rfl<|O.q 2 rfl<|O.aC (.p rfl) rfl aa rfl rfl (LM _ (by first|assumption|exact aj.mono hg aB|exact aj.left aB|exact aj.left (aj.mono hg aB)) aB bL) ?_;rintro KP _ ⟨Re,jT,rfl,Ol,Pp,Oc,rfl⟩
 try simp only [an,aq,au]
 refine O.q 4 rfl<|O.nil<|S.lg results383 rfl rfl fun w hw=>Holds.end_ hR hw ?_;exact pk ⟨Re,jT,rfl,Ol,Pp,Oc,rfl⟩
theorem MF {r:Fr} {va:Value} {v:List dn} {a b:Int} (d:dn) (h:d=(a,b,())) (ha:aj dm r va v) (hv:sy v) (hl:v.length≤1000000000000):ay prog 357 #[va,.agg #[.int .i64 a,.int .i64 b]] r []
  (aM fun u U=>u=.bool (uR v d)∧U=[]):=by
 subst h;refine ay.of (n:=25) _ rfl func357 rfl rfl rfl fun g hg R hR=>?_;have ha:=ha.mono hg;obtain ⟨a1,c1,rfl⟩:=ha.shape;refine S.seq<|S.region rfl<|O.aO (.p rfl) (.box (cs:=[_,_]) rfl rfl) ?_;rintro _ _ ⟨b3,rfl,rfl⟩;refine O.q 1 rfl<|O.nil<|S.seq<|S.region rfl<|O.q 1 rfl<|O.op (.p rfl) (.aF sN rfl)<|O.op (.p rfl) (.lo cv) ?_;refine O.aC (.p rfl) rfl aa rfl rfl (Lo _ (by first|assumption|exact aj.mono hg aB|exact aj.left aB|exact aj.left (aj.mono hg aB)) aB bL) ?_;rintro v11 _ ⟨Rb,Lr,rfl,Xj,Po,Ob,rfl⟩
 try simp only [an,aq,au]
 refine O.q 5 rfl<|O.nil (S.seq ?_)
 cases Lr with
 |true =>
  obtain ⟨hk,hkc⟩:=Po rfl;refine S.cV ai fun g hs hm h3=>?_;replace hg:=Fr.aI hg hs;replace hR:=bt hR hm
  try replace ha:=ha.mono hs
  clear hs hm;refine S.bB (L:=[0,1,2,3,4,5,6,7,8,9,10,11]) bx aa ?_;refine af.q 1 rfl<|af.sT 14 rfl (by first|decide|simp) ?_;refine af.q 3 rfl<|af.b_ (.g rfl rfl) underlying428 sg rfl rfl (show _=(((Rb):Nat):Int) by omega) (by first|assumption|exact aj.mono hg aB|exact aj.left aB|exact aj.left (aj.mono hg aB)) (h:=fun z8 yE lN lR=>?_);obtain ⟨rfl,W_,Xe⟩:=dm.open lR;refine .quiet (.g rfl rfl) rfl (fun _=>.fieldAddr wm rfl)<|.quiet (.g rfl rfl) rfl (fun _=>.loadAt cv rfl (lN.drop 1) rfl) ?_;refine .quiet (.g rfl rfl) rfl (fun _=>.fieldAddr wm rfl)<|.quiet (.g rfl rfl) rfl (fun _=>.loadAt cv rfl (h3.drop 1) rfl) ?_;refine .quiet (.g rfl rfl) rfl (fun _=>.geq rfl rfl)<|af.q 2 rfl<|aK.nil ?_;exact S.rt results357 rfl hR ⟨by rw [NT hv hk hkc],rfl⟩
 |false =>
  refine S.cV ai fun g hs hm h3=>?_;replace hg:=Fr.aI hg hs;replace hR:=bt hR hm
  try replace ha:=ha.mono hs
  clear hs hm;refine S.bB (L:=[0,1,2,3,4,5,6,7,8,9,10,11]) bx aa ?_;refine af.q 1 rfl<|af.aL 14 rfl (by first|decide|simp) ?_;refine af.q 11 rfl<|aK.nil ?_;exact S.rt results357 rfl hR ⟨by rw [NU (Ob rfl)],rfl⟩
theorem pY {r:Fr} {va:Value} {v:List dn} (ha:aj dm r va v):ay prog 355 #[va] r [] (aM fun u U=>u=.bool (jL v)∧U=[]):=by
 refine ay.of (n:=5) _ rfl func355 rfl rfl rfl fun g hg R hR=>?_;have ha:=ha.mono hg;refine S.seq<|S.region rfl<|O.q 1 rfl<|O.nil<|S.seq<|S.region rfl<|O.q 1 rfl<|O.aC (.p rfl) rfl aa rfl rfl (MO (by first|assumption|exact aj.mono hg aB|exact aj.left aB|exact aj.left (aj.mono hg aB))) ?_;rintro _ _ ⟨rfl,rfl⟩
 try simp only [an,aq,au]
 refine O.q 1 rfl<|O.nil ?_;exact S.rt results355 rfl hR ⟨rfl,rfl⟩
theorem E_ {r:Fr} {va:Value} {v:List dn} {a b:Int} (d:dn) (h:d=(a,b,())) (ha:aj dm r va v):ay prog 333 #[va,.agg #[.int .i64 a,.int .i64 b]] r [] (aM fun u U=>u=.bool (rG v d)∧U=[]):=by
 subst h;refine ay.of (n:=16) _ rfl func333 rfl rfl rfl fun g hg R hR=>?_;have ha:=ha.mono hg
 cases hv:jL v with
 |false =>
  refine S.seq<|S.region rfl<|O.aO (.p rfl) (.box (cs:=[_,_]) rfl rfl) ?_;rintro _ _ ⟨b3,rfl,rfl⟩;refine O.q 1 rfl<|O.nil<|S.seq<|S.region rfl<|O.q 1 rfl<|O.aC (.p rfl) rfl aa rfl rfl (pY (by first|assumption|exact aj.mono hg aB|exact aj.left aB|exact aj.left (aj.mono hg aB))) ?_;rintro _ _ ⟨rfl,rfl⟩
  try simp only [an,aq,au]
  refine O.aL 6 rfl (by exact hv) ?_;refine O.q 10 rfl<|O.nil ?_;exact S.rt results333 rfl hR ⟨by simp [rG,hv],rfl⟩
 |true =>
  have hr:=(tX.1 hv).2;have hl:=xS hv
  cases hd:mh (a,b,()) with
  |false =>
   refine S.seq<|S.region rfl<|O.aO (.p rfl) (.box (cs:=[_,_]) rfl rfl) ?_;rintro _ _ ⟨b3,rfl,rfl⟩;refine O.q 1 rfl<|O.nil<|S.seq<|S.region rfl<|O.q 1 rfl<|O.aC (.p rfl) rfl aa rfl rfl (pY (by first|assumption|exact aj.mono hg aB|exact aj.left aB|exact aj.left (aj.mono hg aB))) ?_;rintro _ _ ⟨rfl,rfl⟩
   try simp only [an,aq,au]
   refine O.sT 6 rfl (by exact hv) ?_;refine O.q 1 rfl<|O.op (.g rfl rfl) (.gU (news:=[_,_]) isAgg191) ?_;refine O.aC (.g rfl rfl) rfl aa rfl rfl (x9 _ rfl) ?_;rintro _ _ ⟨rfl,rfl⟩
   try simp only [an,aq,au]
   refine O.aL 9 rfl (by exact hd) ?_;refine O.q 7 rfl<|O.nil ?_;exact S.rt results333 rfl hR ⟨by simp [rG,hd],rfl⟩
  |true =>
   refine S.seq<|S.region rfl<|O.aO (.p rfl) (.box (cs:=[_,_]) rfl rfl) ?_;rintro _ _ ⟨b3,rfl,rfl⟩;refine O.q 1 rfl<|O.nil<|S.seq<|S.region rfl<|O.q 1 rfl<|O.aC (.p rfl) rfl aa rfl rfl (pY (by first|assumption|exact aj.mono hg aB|exact aj.left aB|exact aj.left (aj.mono hg aB))) ?_;rintro _ _ ⟨rfl,rfl⟩
   try simp only [an,aq,au]
   refine O.sT 6 rfl (by exact hv) ?_;refine O.q 1 rfl<|O.op (.g rfl rfl) (.gU (news:=[_,_]) isAgg191) ?_;refine O.aC (.g rfl rfl) rfl aa rfl rfl (x9 _ rfl) ?_;rintro _ _ ⟨rfl,rfl⟩
   try simp only [an,aq,au]
   refine O.sT 9 rfl (by exact hd) ?_;refine O.q 3 rfl<|O.op (.g rfl rfl) (.gU (news:=[_,_]) isAgg191) ?_;refine O.aC (.g rfl rfl) rfl aa rfl rfl (MF _ rfl (by first|assumption|exact aj.mono hg aB|exact aj.left aB|exact aj.left (aj.mono hg aB)) aB bL) ?_;rintro _ _ ⟨rfl,rfl⟩
   try simp only [an,aq,au]
   refine O.q 2 rfl<|O.nil ?_;exact S.rt results333 rfl hR ⟨by simp [rG,hv,hd],rfl⟩
theorem tY {r:Fr} {cs:List Value} {x:aQ} (h:dc.rel r cs x):ay prog 334 #[.agg cs.toArray] r [] (aM fun v U=>v=.agg #[.int .i64 x.2.1,.int .i64 x.2.2.1]∧U=[]):=by
 obtain ⟨v3,v5,v6,rfl,k0,k1,k2,aR,fJ,ew⟩:=dc.open h;refine ay.of (n:=10) _ rfl func334 rfl rfl rfl fun g hg R hR=>?_;refine S.seq<|S.region rfl<|O.aO (.p rfl) (.box (cs:=[_,_,_,_,_,_,_]) rfl rfl) ?_;rintro _ _ ⟨b1,rfl,rfl⟩;refine O.aO (.p rfl) (.alloc (cs:=[.int .i64 0,.int .i64 0]) zeroValue191 rfl) ?_;rintro _ _ ⟨b2,rfl,rfl⟩;refine O.nil<|S.seq<|S.region rfl<|O.op (.p rfl) (.aF fA rfl)<|O.op (.p rfl) (.aF yT rfl)<|O.op (.p rfl) (.lo cv) ?_;refine O.op (.p rfl) (.aF fA rfl)<|O.op (.p rfl) (.aF yU rfl)<|O.op (.p rfl) (.lo cv) ?_;refine O.op (.p rfl) (.build (cs:=[_,_]) underlying191 rfl rfl rfl rfl rfl)<|O.bw rfl (.cZ aa rfl rfl rfl rfl ai aT) ?_;refine O.nil<|S.vn results334 isAgg191 aa rfl ai fun w hw=>Holds.end_ hR hw ?_;exact pk ⟨rfl,rfl⟩
theorem sq {r:Fr} {cs:List Value} {x:aQ} (h:dc.rel r cs x):ay prog 332 #[.agg cs.toArray] r [] (aM fun v U=>v=.bool (shaped x)∧U=[]):=by
 obtain ⟨v3,v5,v6,rfl,k0,k1,k2,aR,fJ,ew⟩:=dc.open h;refine ay.of (n:=48) _ rfl func332 rfl rfl rfl fun g hg R hR=>?_;have h:=h.mono hg;have aR:=aR.mono hg;have fJ:=fJ.mono hg;have ew:=ew.mono hg;obtain ⟨a3,c3,rfl⟩:=aR.shape;obtain ⟨a5,dM,rfl⟩:=fJ.shape;obtain ⟨a6,dD,rfl⟩:=ew.shape
 by_cases n1:x.1.length<1
 ·have e:shaped x=false:=by unfold shaped;rw [decide_eq_false (show ¬ 1≤x.1.length by omega)];rfl
  refine S.seq<|S.region rfl<|O.aO (.p rfl) (.box (cs:=[_,_,_,_,_,_,_]) rfl rfl) ?_;rintro _ _ ⟨b1,rfl,rfl⟩;refine O.q 1 rfl<|O.nil<|S.seq<|S.block<|S.seq<|S.seq<|S.region rfl<|O.op (.p rfl) (.aF fA rfl)<|O.op (.p rfl) (.aF fw rfl)<|O.op (.p rfl) (.lo bV) ?_;refine O.op (.p rfl) (.c6 rfl underlying9 rfl)<|O.op (.p rfl) (.lss rfl rfl)<|O.sT 8 rfl bX ?_;refine O.q 1 rfl<|O.nil<|S.bC rfl<|S.skip<|S.bC rfl<|S.seq<|S.region rfl<|O.q 1 rfl<|O.nil ?_;exact S.rt results332 rfl hR ⟨by rw [e],rfl⟩
 have e1:1≤x.1.length:=by omega
 by_cases n2:64<x.1.length
 ·have e:shaped x=false:=by unfold shaped;rw [decide_eq_false (show ¬ x.1.length≤64 by omega)];simp
  refine S.seq<|S.region rfl<|O.aO (.p rfl) (.box (cs:=[_,_,_,_,_,_,_]) rfl rfl) ?_;rintro _ _ ⟨b1,rfl,rfl⟩;refine O.q 1 rfl<|O.nil<|S.seq<|S.block<|S.seq<|S.seq<|S.region rfl<|O.op (.p rfl) (.aF fA rfl)<|O.op (.p rfl) (.aF fw rfl)<|O.op (.p rfl) (.lo bV) ?_;refine O.op (.p rfl) (.c6 rfl underlying9 rfl)<|O.op (.p rfl) (.lss rfl rfl)<|O.aL 8 rfl bX ?_;refine O.q 1 rfl<|O.nil<|S.aP rfl<|S.seq<|S.region rfl<|O.op (.p rfl) (.aF fA rfl)<|O.op (.p rfl) (.aF fw rfl)<|O.op (.p rfl) (.lo bV) ?_;refine O.op (.p rfl) (.c6 rfl underlying9 rfl)<|O.op (.p rfl) (.gtr rfl rfl)<|O.sT 13 rfl bX ?_;refine O.q 1 rfl<|O.nil<|S.bC rfl<|S.skip<|S.bC rfl<|S.seq<|S.region rfl<|O.q 1 rfl<|O.nil ?_;exact S.rt results332 rfl hR ⟨by rw [e],rfl⟩
 have e2:x.1.length≤64:=by omega
 have zy:jL [iu x]=mh (iu x):=by
  cases hd:mh (iu x) with
  |true=>rw [tX];exact ⟨fun d q=>by rw [List.mem_singleton.1 q];exact hd,List.pairwise_singleton ..⟩
  |false =>
   rw [Bool.eq_false_iff]
   intro q
   have:=(tX.1 q).1 _ (List.mem_singleton.2 rfl);rw [hd] at this;cases this
 cases b6:mh (iu x) with
 |false =>
  have e:shaped x=false:=by unfold shaped;rw [b6];simp
  refine S.seq<|S.region rfl<|O.aO (.p rfl) (.box (cs:=[_,_,_,_,_,_,_]) rfl rfl) ?_;rintro _ _ ⟨b1,rfl,rfl⟩;refine O.q 1 rfl<|O.nil<|S.seq<|S.block<|S.seq<|S.seq<|S.region rfl<|O.op (.p rfl) (.aF fA rfl)<|O.op (.p rfl) (.aF fw rfl)<|O.op (.p rfl) (.lo bV) ?_;refine O.op (.p rfl) (.c6 rfl underlying9 rfl)<|O.op (.p rfl) (.lss rfl rfl)<|O.aL 8 rfl bX ?_;refine O.q 1 rfl<|O.nil<|S.aP rfl<|S.seq<|S.region rfl<|O.op (.p rfl) (.aF fA rfl)<|O.op (.p rfl) (.aF fw rfl)<|O.op (.p rfl) (.lo bV) ?_;refine O.op (.p rfl) (.c6 rfl underlying9 rfl)<|O.op (.p rfl) (.gtr rfl rfl)<|O.aL 13 rfl bX ?_;refine O.q 1 rfl<|O.nil<|S.aP rfl<|S.seq<|S.region rfl<|O.op (.p rfl) (.gU (news:=[_,_,_,_,_,_,_]) isAgg415) ?_;refine O.aC (.p rfl) rfl aa rfl rfl (tY (by first|assumption|exact ag.rel.mono aB hg)) ?_;rintro _ _ ⟨rfl,rfl⟩
  try simp only [an,aq,au]
  refine O.aO (.p rfl) (.cn (T:=dm) (ys:=[iu x]) underlying100 rp zE rfl rfl ⟨dm.mk k1 k2,trivial⟩ zE) ?_;rintro _ _ ⟨eb,ec,rfl,rfl⟩;refine O.fB ai fun g hs hm sX=>?_;replace hg:=Fr.aI hg hs;replace hR:=bt hR hm
  try replace h:=h.mono hs
  try replace aR:=aR.mono hs
  try replace fJ:=fJ.mono hs
  try replace ew:=ew.mono hs
  clear hs hm;refine O.aC (.p rfl) rfl aa rfl rfl (pY (by first|assumption|exact aj.mono hg aB|exact aj.left aB|exact aj.left (aj.mono hg aB))) ?_;rintro _ _ ⟨rfl,rfl⟩
  try simp only [an,aq,au]
  refine O.aL 17 rfl (by rw [zy,b6]) ?_;refine O.op (.p rfl) (.not rfl)<|O.q 1 rfl<|O.nil<|S.bC rfl<|S.skip<|S.bC rfl<|S.seq<|S.region rfl<|O.q 1 rfl<|O.nil ?_;exact S.rt results332 rfl hR ⟨by rw [e],rfl⟩
 |true =>
  cases ff:jL x.2.2.2.1 with
  |false =>
   have e:shaped x=false:=by unfold shaped;rw [ff];simp
   refine S.seq<|S.region rfl<|O.aO (.p rfl) (.box (cs:=[_,_,_,_,_,_,_]) rfl rfl) ?_;rintro _ _ ⟨b1,rfl,rfl⟩;refine O.q 1 rfl<|O.nil<|S.seq<|S.block<|S.seq<|S.seq<|S.region rfl<|O.op (.p rfl) (.aF fA rfl)<|O.op (.p rfl) (.aF fw rfl)<|O.op (.p rfl) (.lo bV) ?_;refine O.op (.p rfl) (.c6 rfl underlying9 rfl)<|O.op (.p rfl) (.lss rfl rfl)<|O.aL 8 rfl bX ?_;refine O.q 1 rfl<|O.nil<|S.aP rfl<|S.seq<|S.region rfl<|O.op (.p rfl) (.aF fA rfl)<|O.op (.p rfl) (.aF fw rfl)<|O.op (.p rfl) (.lo bV) ?_;refine O.op (.p rfl) (.c6 rfl underlying9 rfl)<|O.op (.p rfl) (.gtr rfl rfl)<|O.aL 13 rfl bX ?_;refine O.q 1 rfl<|O.nil<|S.aP rfl<|S.seq<|S.region rfl<|O.op (.p rfl) (.gU (news:=[_,_,_,_,_,_,_]) isAgg415) ?_;refine O.aC (.p rfl) rfl aa rfl rfl (tY (by first|assumption|exact ag.rel.mono aB hg)) ?_;rintro _ _ ⟨rfl,rfl⟩
   try simp only [an,aq,au]
   refine O.aO (.p rfl) (.cn (T:=dm) (ys:=[iu x]) underlying100 rp zE rfl rfl ⟨dm.mk k1 k2,trivial⟩ zE) ?_;rintro _ _ ⟨eb,ec,rfl,rfl⟩;refine O.fB ai fun g hs hm sX=>?_;replace hg:=Fr.aI hg hs;replace hR:=bt hR hm
   try replace h:=h.mono hs
   try replace aR:=aR.mono hs
   try replace fJ:=fJ.mono hs
   try replace ew:=ew.mono hs
   clear hs hm;refine O.aC (.p rfl) rfl aa rfl rfl (pY (by first|assumption|exact aj.mono hg aB|exact aj.left aB|exact aj.left (aj.mono hg aB))) ?_;rintro _ _ ⟨rfl,rfl⟩
   try simp only [an,aq,au]
   refine O.sT 17 rfl (by rw [zy,b6]) ?_;refine O.op (.p rfl) (.not rfl)<|O.q 1 rfl<|O.nil<|S.aP rfl<|S.seq<|S.region rfl<|O.op (.p rfl) (.aF fA rfl)<|O.op (.p rfl) (.aF fQ rfl)<|O.op (.p rfl) (.lo e5) ?_;refine O.aC (.p rfl) rfl aa rfl rfl (pY (by first|assumption|exact aj.mono hg aB|exact aj.left aB|exact aj.left (aj.mono hg aB))) ?_;rintro _ _ ⟨rfl,rfl⟩
   try simp only [an,aq,au]
   refine O.aL 22 rfl (by exact ff) ?_;refine O.op (.p rfl) (.not rfl)<|O.q 1 rfl<|O.nil<|S.bC rfl<|S.skip<|S.bC rfl<|S.seq<|S.region rfl<|O.q 1 rfl<|O.nil ?_;exact S.rt results332 rfl hR ⟨by rw [e],rfl⟩
  |true =>
   cases mZ:rG x.2.2.2.1 (iu x) with
   |true =>
    have e:shaped x=false:=by unfold shaped;rw [mZ];simp
    refine S.seq<|S.region rfl<|O.aO (.p rfl) (.box (cs:=[_,_,_,_,_,_,_]) rfl rfl) ?_;rintro _ _ ⟨b1,rfl,rfl⟩;refine O.q 1 rfl<|O.nil<|S.seq<|S.block<|S.seq<|S.seq<|S.region rfl<|O.op (.p rfl) (.aF fA rfl)<|O.op (.p rfl) (.aF fw rfl)<|O.op (.p rfl) (.lo bV) ?_;refine O.op (.p rfl) (.c6 rfl underlying9 rfl)<|O.op (.p rfl) (.lss rfl rfl)<|O.aL 8 rfl bX ?_;refine O.q 1 rfl<|O.nil<|S.aP rfl<|S.seq<|S.region rfl<|O.op (.p rfl) (.aF fA rfl)<|O.op (.p rfl) (.aF fw rfl)<|O.op (.p rfl) (.lo bV) ?_;refine O.op (.p rfl) (.c6 rfl underlying9 rfl)<|O.op (.p rfl) (.gtr rfl rfl)<|O.aL 13 rfl bX ?_;refine O.q 1 rfl<|O.nil<|S.aP rfl<|S.seq<|S.region rfl<|O.op (.p rfl) (.gU (news:=[_,_,_,_,_,_,_]) isAgg415) ?_;refine O.aC (.p rfl) rfl aa rfl rfl (tY (by first|assumption|exact ag.rel.mono aB hg)) ?_;rintro _ _ ⟨rfl,rfl⟩
    try simp only [an,aq,au]
    refine O.aO (.p rfl) (.cn (T:=dm) (ys:=[iu x]) underlying100 rp zE rfl rfl ⟨dm.mk k1 k2,trivial⟩ zE) ?_;rintro _ _ ⟨eb,ec,rfl,rfl⟩;refine O.fB ai fun g hs hm sX=>?_;replace hg:=Fr.aI hg hs;replace hR:=bt hR hm
    try replace h:=h.mono hs
    try replace aR:=aR.mono hs
    try replace fJ:=fJ.mono hs
    try replace ew:=ew.mono hs
    clear hs hm;refine O.aC (.p rfl) rfl aa rfl rfl (pY (by first|assumption|exact aj.mono hg aB|exact aj.left aB|exact aj.left (aj.mono hg aB))) ?_;rintro _ _ ⟨rfl,rfl⟩
    try simp only [an,aq,au]
    refine O.sT 17 rfl (by rw [zy,b6]) ?_;refine O.op (.p rfl) (.not rfl)<|O.q 1 rfl<|O.nil<|S.aP rfl<|S.seq<|S.region rfl<|O.op (.p rfl) (.aF fA rfl)<|O.op (.p rfl) (.aF fQ rfl)<|O.op (.p rfl) (.lo e5) ?_;refine O.aC (.p rfl) rfl aa rfl rfl (pY (by first|assumption|exact aj.mono hg aB|exact aj.left aB|exact aj.left (aj.mono hg aB))) ?_;rintro _ _ ⟨rfl,rfl⟩
    try simp only [an,aq,au]
    refine O.sT 22 rfl (by exact ff) ?_;refine O.op (.p rfl) (.not rfl)<|O.q 1 rfl<|O.nil<|S.aP rfl<|S.cV ai fun g hs hm eZ=>?_;replace hg:=Fr.aI hg hs;replace hR:=bt hR hm
    try replace h:=h.mono hs
    try replace aR:=aR.mono hs
    try replace fJ:=fJ.mono hs
    try replace ew:=ew.mono hs
    try replace sX:=sX.mono hs
    clear hs hm;refine S.bB (L:=[0,1,2,3,4,5,6]) bx aa ?_;refine .quiet (.p rfl) rfl (fun _=>.fieldAddr fA rfl)<|.quiet (.p rfl) rfl (fun _=>.fieldAddr fQ rfl)<|.quiet (.p rfl) rfl (fun _=>.loadAt e5 rfl (eZ.drop 3) rfl) ?_;refine .quiet (.p rfl) rfl (fun _=>.bI isAgg415 aa rfl eZ) ?_;refine af.aC (.p rfl) aa rfl aa rfl rfl (tY (by first|assumption|exact ag.rel.mono aB hg)) ?_;rintro _ _ ⟨rfl,rfl⟩
    try simp only [an,aq,au]
    refine af.aC (.p rfl) aa rfl aa rfl rfl (E_ (iu x) rfl (by first|assumption|exact aj.mono hg aB|exact aj.left aB|exact aj.left (aj.mono hg aB))) ?_;rintro _ _ ⟨rfl,rfl⟩
    try simp only [an,aq,au]
    refine af.sT 29 rfl (by exact mZ) ?_;refine af.q 1 rfl<|aK.nil<|S.bC rfl<|S.seq<|S.region rfl<|O.q 1 rfl<|O.nil ?_;exact S.rt results332 rfl hR ⟨by rw [e],rfl⟩
   |false =>
    have e:shaped x=(decide (x.2.2.2.2.2.1.length≤1024) && (!x.2.2.2.2.1 ||decide (x.2.2.2.2.2.1.length=0))):=by unfold shaped;rw [decide_eq_true e1,decide_eq_true e2,b6,ff,mZ];simp
    rw [e] at hR;clear e;refine S.seq<|S.region rfl<|O.aO (.p rfl) (.box (cs:=[_,_,_,_,_,_,_]) rfl rfl) ?_;rintro _ _ ⟨b1,rfl,rfl⟩;refine O.q 1 rfl<|O.nil<|S.seq<|S.block<|S.seq<|S.seq<|S.region rfl<|O.op (.p rfl) (.aF fA rfl)<|O.op (.p rfl) (.aF fw rfl)<|O.op (.p rfl) (.lo bV) ?_;refine O.op (.p rfl) (.c6 rfl underlying9 rfl)<|O.op (.p rfl) (.lss rfl rfl)<|O.aL 8 rfl bX ?_;refine O.q 1 rfl<|O.nil<|S.aP rfl<|S.seq<|S.region rfl<|O.op (.p rfl) (.aF fA rfl)<|O.op (.p rfl) (.aF fw rfl)<|O.op (.p rfl) (.lo bV) ?_;refine O.op (.p rfl) (.c6 rfl underlying9 rfl)<|O.op (.p rfl) (.gtr rfl rfl)<|O.aL 13 rfl bX ?_;refine O.q 1 rfl<|O.nil<|S.aP rfl<|S.seq<|S.region rfl<|O.op (.p rfl) (.gU (news:=[_,_,_,_,_,_,_]) isAgg415) ?_;refine O.aC (.p rfl) rfl aa rfl rfl (tY (by first|assumption|exact ag.rel.mono aB hg)) ?_;rintro _ _ ⟨rfl,rfl⟩
    try simp only [an,aq,au]
    refine O.aO (.p rfl) (.cn (T:=dm) (ys:=[iu x]) underlying100 rp zE rfl rfl ⟨dm.mk k1 k2,trivial⟩ zE) ?_;rintro _ _ ⟨eb,ec,rfl,rfl⟩;refine O.fB ai fun g hs hm sX=>?_;replace hg:=Fr.aI hg hs;replace hR:=bt hR hm
    try replace h:=h.mono hs
    try replace aR:=aR.mono hs
    try replace fJ:=fJ.mono hs
    try replace ew:=ew.mono hs
    clear hs hm;refine O.aC (.p rfl) rfl aa rfl rfl (pY (by first|assumption|exact aj.mono hg aB|exact aj.left aB|exact aj.left (aj.mono hg aB))) ?_;rintro _ _ ⟨rfl,rfl⟩
    try simp only [an,aq,au]
    refine O.sT 17 rfl (by rw [zy,b6]) ?_;refine O.op (.p rfl) (.not rfl)<|O.q 1 rfl<|O.nil<|S.aP rfl<|S.seq<|S.region rfl<|O.op (.p rfl) (.aF fA rfl)<|O.op (.p rfl) (.aF fQ rfl)<|O.op (.p rfl) (.lo e5) ?_;refine O.aC (.p rfl) rfl aa rfl rfl (pY (by first|assumption|exact aj.mono hg aB|exact aj.left aB|exact aj.left (aj.mono hg aB))) ?_;rintro _ _ ⟨rfl,rfl⟩
    try simp only [an,aq,au]
    refine O.sT 22 rfl (by exact ff) ?_;refine O.op (.p rfl) (.not rfl)<|O.q 1 rfl<|O.nil<|S.aP rfl<|S.cV ai fun g hs hm eZ=>?_;replace hg:=Fr.aI hg hs;replace hR:=bt hR hm
    try replace h:=h.mono hs
    try replace aR:=aR.mono hs
    try replace fJ:=fJ.mono hs
    try replace ew:=ew.mono hs
    try replace sX:=sX.mono hs
    clear hs hm;refine S.bB (L:=[0,1,2,3,4,5,6]) bx aa ?_;refine .quiet (.p rfl) rfl (fun _=>.fieldAddr fA rfl)<|.quiet (.p rfl) rfl (fun _=>.fieldAddr fQ rfl)<|.quiet (.p rfl) rfl (fun _=>.loadAt e5 rfl (eZ.drop 3) rfl) ?_;refine .quiet (.p rfl) rfl (fun _=>.bI isAgg415 aa rfl eZ) ?_;refine af.aC (.p rfl) aa rfl aa rfl rfl (tY (by first|assumption|exact ag.rel.mono aB hg)) ?_;rintro _ _ ⟨rfl,rfl⟩
    try simp only [an,aq,au]
    refine af.aC (.p rfl) aa rfl aa rfl rfl (E_ (iu x) rfl (by first|assumption|exact aj.mono hg aB|exact aj.left aB|exact aj.left (aj.mono hg aB))) ?_;rintro _ _ ⟨rfl,rfl⟩
    try simp only [an,aq,au]
    refine af.aL 29 rfl (by exact mZ) ?_;refine af.q 1 rfl<|aK.nil<|S.aP rfl<|S.skip (S.inBlock (S.seq ?_))
    by_cases n6:1024<x.2.2.2.2.2.1.length
    ·
     refine S.region rfl<|O.op (.p rfl) (.fieldAddr fA rfl)<|O.op (.p rfl) (.fieldAddr gD rfl)<|O.op (.p rfl) (.loadAt bg rfl (eZ.drop 5) rfl) ?_;refine O.op (.p rfl) (.len rfl underlying24 rfl)<|O.op (.p rfl) (.leq rfl rfl)<|O.aL 34 rfl bX ?_;refine O.q 14 rfl<|O.nil ?_;exact S.rt results332 rfl hR ⟨by rw [decide_eq_false (show ¬ x.2.2.2.2.2.1.length≤1024 by omega)];rfl,rfl⟩
    have yL:x.2.2.2.2.2.1.length≤1024:=by omega
    cases yM:x.2.2.2.2.1 with
    |false =>
     refine S.region rfl<|O.op (.p rfl) (.fieldAddr fA rfl)<|O.op (.p rfl) (.fieldAddr gD rfl)<|O.op (.p rfl) (.loadAt bg rfl (eZ.drop 5) rfl) ?_;refine O.op (.p rfl) (.len rfl underlying24 rfl)<|O.op (.p rfl) (.leq rfl rfl)<|O.sT 34 rfl bX ?_;refine O.q 1 rfl<|O.op (.g rfl rfl) (.fieldAddr fA rfl)<|O.op (.g rfl rfl) (.fieldAddr yV rfl)<|O.op (.g rfl rfl) (.loadAt ic rfl (eZ.drop 4) rfl) ?_;refine O.slot 38 (v' :=.bool false) rfl (by rw [yM]) ?_;refine O.op (.g rfl rfl) ((by first|exact .k7 rfl|exact .not rfl)) ?_;refine O.sT 39 rfl aG ?_;refine O.q 9 rfl<|O.nil ?_;exact S.rt results332 rfl hR ⟨by rw [decide_eq_true yL,yM];rfl,rfl⟩
    |true =>
     refine S.region rfl<|O.op (.p rfl) (.fieldAddr fA rfl)<|O.op (.p rfl) (.fieldAddr gD rfl)<|O.op (.p rfl) (.loadAt bg rfl (eZ.drop 5) rfl) ?_;refine O.op (.p rfl) (.len rfl underlying24 rfl)<|O.op (.p rfl) (.leq rfl rfl)<|O.sT 34 rfl bX ?_;refine O.q 1 rfl<|O.op (.g rfl rfl) (.fieldAddr fA rfl)<|O.op (.g rfl rfl) (.fieldAddr yV rfl)<|O.op (.g rfl rfl) (.loadAt ic rfl (eZ.drop 4) rfl) ?_;refine O.slot 38 (v' :=.bool true) rfl (by rw [yM]) ?_;refine O.op (.g rfl rfl) ((by first|exact .k7 rfl|exact .not rfl)) ?_;refine O.aL 39 rfl aG ?_;refine O.q 1 rfl<|O.op (.g rfl rfl) (.fieldAddr fA rfl)<|O.op (.g rfl rfl) (.fieldAddr gD rfl)<|O.op (.g rfl rfl) (.loadAt bg rfl (eZ.drop 5) rfl) ?_;refine O.op (.g rfl rfl) (.len rfl underlying24 rfl)<|O.op (.g rfl rfl) (.eql rfl rfl)<|O.q 3 rfl<|O.nil ?_;exact S.rt results332 rfl hR ⟨by rw [decide_eq_true yL,yM];simp,rfl⟩
end Go.Proofs.YtojafegjlahajaaGreatDoor
