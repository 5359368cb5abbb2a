/- Texts of this proof. -/
import Derived.Test.YtojafegjlahajaaGreatDoorQFi
import Derived.Test.YtojafegjlahajaaGreatDoorQSpLaid
open Go Go.Sp Go.Proofs.Tryz
set_option maxRecDepth 100000
set_option maxHeartbeats 1000000
attribute [local irreducible] obj Own av
namespace Go.Proofs.YtojafegjlahajaaGreatDoor
theorem wu {r:Fr} {va je:Value} {xs ys:List UInt8} (ha:aj ag.u8 r va xs) (hb:aj ag.u8 r je ys) :
  ay prog 19 #[va,je] r [] (aL fun v U=>v=.bool (decide (xs=ys))∧U=[]):=by
 refine ay.of (n:=26) _ rfl func19 rfl rfl rfl fun g hg R hR=>?_;have ha:=ha.mono hg;have hb:=hb.mono hg;have l1:=ha.bound;have l2:=hb.bound;obtain ⟨a1,c1,rfl⟩:=ha.shape;obtain ⟨a2,c2,rfl⟩:=hb.shape;refine S.seq<|S.region rfl<|O.q 1 rfl<|O.nil<|S.seq<|S.seq<|S.region rfl<|O.q 1 rfl<|O.op (.p rfl) (.len rfl underlying24 rfl)<|O.q 1 rfl<|O.op (.p rfl) (.len rfl underlying24 rfl)<|O.op (.p rfl) (.neq rfl rfl)<|O.nil ?_
 first|refine S.cc rfl (fun h10=>?_) (fun h10=>?_)|refine S.b7 rfl (fun h10=>?_) (fun h10=>?_)
 ·refine S.seq<|S.region rfl<|O.q 1 rfl<|O.nil<|S.ret results19 rfl fun w hw=>hR _ _ w ?_ hw
  refine ⟨?_,rfl⟩
  congr 1
  symm
  rw [decide_eq_false_iff_not];rintro rfl;exact h10 rfl
 ·refine S.skip<|S.seq<|S.seq<|S.region rfl<|O.q 1 rfl<|O.nil (S.block ?_)
  have h10:xs.length=ys.length:=by omega
  refine S.e6 (ι:=Nat) (fun i=>i≤xs.length∧xs.take i=ys.take i) (fun i=>[(5,.int .i64 (i:Int))]) [(0,_),(1,_)] (fun i=>[]) (fun i=>xs.length - i) (0) bI (.cons rfl (.nil)) (.cons rfl (.cons rfl (.nil))) rfl fun i hx ih=>?_;have aX:=cL (g:=g);obtain ⟨hi,he⟩:=hx;refine S.seq<|S.seq<|S.region rfl<|O.q 2 rfl<|O.op (.p rfl) (.len rfl underlying24 rfl)<|O.op (.p rfl) (.lss rfl rfl)<|O.nil ?_
  first|refine S.cc rfl (fun e9=>?_) (fun e9=>?_)|refine S.b7 rfl (fun e9=>?_) (fun e9=>?_)
  ·have hlt:i<xs.length:=by omega
   refine S.skip<|S.seq<|S.block<|S.seq<|S.bB (L:=[0,1,2,3,4,5,6,7,8]) bA aa<|af.q 2 rfl<|af.b8 (.p rfl) underlying24 fR rfl rfl rfl (by first|assumption|exact aj.mono hg zE|exact aj.left zE|exact aj.left (aj.mono hg zE)) (h:=fun sr sZ ki gq=>?_)
   cases gq
   refine .quiet (.p rfl) rfl (fun _=>.loadAt lu rfl ki rfl) ?_;refine af.q 2 rfl<|af.b8 (.p rfl) underlying24 fR rfl rfl rfl (by first|assumption|exact aj.mono hg zE|exact aj.left zE|exact aj.left (aj.mono hg zE)) (h:=fun vS u9 nH k4=>?_)
   cases k4
   refine .quiet (.p rfl) rfl (fun _=>.loadAt lu rfl nH rfl) ?_;refine .quiet (.p rfl) rfl (fun _=>.neq rfl rfl)<|aI.nil ?_
   first|refine S.cc rfl (fun rQ=>?_) (fun rQ=>?_)|refine S.b7 rfl (fun rQ=>?_) (fun rQ=>?_)
   ·refine S.seq<|S.region rfl<|O.q 1 rfl<|O.nil<|S.ret results19 rfl fun w hw=>hR _ _ w ?_ hw
    refine ⟨?_,rfl⟩
    congr 1
    symm
    rw [decide_eq_false_iff_not];rintro rfl;exact rQ rfl
   ·refine S.skip<|S.inBlock<|S.region rfl<|O.q 1 rfl<|O.op (.p rfl) (.add rfl rfl (IntWalk.i64_in _ ah))<|O.q 1 rfl<|O.nil ?_
    exact S.dz (ih (i+1) (by (refine ⟨hlt,?_⟩;rw [List.take_succ_eq_append_getElem hlt,List.take_succ_eq_append_getElem ah,he];congr 2;exact UInt8.toNat_inj.1 ah)) ah)
  ·refine S.exit rfl<|S.seq<|S.region rfl<|O.q 1 rfl<|O.nil<|S.ret results19 rfl fun w hw=>hR _ _ w ?_ hw
   refine ⟨?_,rfl⟩
   congr 1
   symm
   rw [decide_eq_true_eq];have:i=xs.length:=by omega
   subst this
   rwa [List.take_of_length_le (Nat.le_refl _),List.take_of_length_le ah] at he
theorem Wc (n:Int) (i:Nat) (h:i<8):(List.replicate (8 - i) (0:UInt8)++(be n).drop (8 - i)).set (7 - i) (jN n i)=List.replicate (8 - (i+1)) 0++(be n).drop (8 - (i+1)):=by
 match i,h with
 |0,_|1,_|2,_|3,_|4,_|5,_|6,_|7,_=>rfl
theorem kq {r:Fr} (n:Int):ay prog 147 #[.int .i64 n] r [] (aL fun v U=>∃ a c,v=.slice a 8 c∧U=[av ag.u8 5 v (be n)]):=by
 refine ay.of (n:=23) _ rfl func147 rfl rfl rfl fun g hg R hR=>?_;refine S.seq<|S.region rfl<|O.q 1 rfl<|O.nil<|S.seq<|S.region rfl<|O.aM (.p rfl) (.Am (T:=ag.u8) (0:UInt8) (m:=8) underlying24 eR aC rfl rfl rfl rfl rfl aC aC) ?_;rintro _ _ ⟨a,c,rfl,rfl⟩;refine O.q 1 rfl<|O.nil<|S.seq<|S.seq<|S.region rfl<|O.q 1 rfl<|O.op (.p rfl) (.len rfl underlying24 rfl)<|O.q 1 rfl<|O.nil<|S.block<|S.e6 (ι:=Nat) (fun i=>i≤8) (fun i=>[(8,.int .i64 (i:Int))]) [(0,_),(3,_),(7,_)] (fun i=>[av ag.u8 5 (.slice a 8 c) (List.replicate (8 - i) 0++(be n).drop (8 - i))]) (fun i=>8 - i) (0) bI (.cons rfl (.nil)) (.cons rfl (.cons rfl (.cons rfl (.nil)))) rfl fun i hx ih=>?_;have aX:=cL (g:=g);refine S.seq<|S.region rfl<|O.op (.p rfl) (.lss rfl rfl)<|O.nil (S.seq ?_)
 first|refine S.cc rfl (fun h9=>?_) (fun h9=>?_)|refine S.b7 rfl (fun h9=>?_) (fun h9=>?_)
 ·refine S.skip<|S.seq<|S.block<|S.seq<|S.region rfl<|O.q 2 rfl<|O.nil<|S.region rfl<|O.q 2 rfl<|O.op (.p rfl) (.sub rfl rfl (IntWalk.i64_in _ ah))<|O.q 1 rfl<|O.op (.p rfl) (.lU underlying3 underlying274 rfl)<|O.q 1 rfl<|O.op (.p rfl) (.mul rfl rfl (IntWalk.i64_in _ ah))<|O.op (.p rfl) (.shr rfl rfl ah)<|O.op (.p rfl) (.lU underlying274 underlying5 rfl)<|O.aM (.p rfl) (.ot (T:=ag.u8) underlying24 fR rfl rfl (show _=(((7 - i):Nat):Int) by omega) ai oM) ?_
  rintro _ _ ⟨Z6,rfl,Qa,rfl⟩;refine O.bu rfl (.rj fR rfl Qa rfl ai oM (show _=_ by simp only [Value.cells,bD];rw [K0 n i ah _ rfl]:ag.rel _ _ _ (jN n i))) ?_;refine O.nil<|S.inBlock<|S.region rfl<|O.op (.p rfl) (.add rfl rfl (IntWalk.i64_in _ ah))<|O.q 1 rfl<|O.nil ?_;rw [Wc n i ah];exact S.dz (ih (i+1) ah ah)
 ·refine S.exit rfl<|S.seq<|S.region rfl<|O.q 2 rfl<|O.nil<|S.ret results147 rfl fun w hw=>hR _ _ w ?_ hw
  have:i=8:=by omega
  subst this;exact ⟨a,c,rfl,rfl⟩
theorem eE {r:Fr} {va:Value} {xs:List UInt8} (ha:aj ag.u8 r va xs) (hl:xs.length≤140737488355328) :
  ay prog 95 #[va] r [] (aL fun v U=>∃ a c,v=.slice a xs.length c∧U=[av ag.u8 5 v xs]):=by
 refine ay.of (n:=8) _ rfl func95 rfl rfl rfl fun g hg R hR=>?_;have ha:=ha.mono hg;obtain ⟨a1,c1,rfl⟩:=ha.shape
 cases a1 with
 |none =>
  refine S.seq<|S.region rfl<|O.q 1 rfl<|O.nil<|S.seq<|S.seq<|S.region rfl<|O.q 1 rfl<|O.op (.p rfl) (.nw underlying24 rfl rfl)<|O.nil<|S.bx rfl<|S.seq<|S.region rfl<|O.q 1 rfl<|O.nil ?_;obtain ⟨rfl,_,rfl⟩:=aj.x_ aC ha;refine S.gh (T:=ag.u8) (e:=5) ?_;refine S.ret results95 rfl fun w hw=>hR _ _ w ?_ hw;exact ⟨none,0,rfl,rfl⟩
 |some a1 =>
  refine S.seq<|S.region rfl<|O.q 1 rfl<|O.nil<|S.seq<|S.seq<|S.region rfl<|O.q 1 rfl<|O.op (.p rfl) (.nw underlying24 rfl rfl)<|O.nil<|S.aQ rfl<|S.skip<|S.seq<|S.region rfl<|O.aM (.p rfl) (.ct (T:=ag.u8) (ys:=[]) underlying24 eR aC rfl rfl trivial aC) ?_;rintro _ _ ⟨a5,dP,rfl,rfl⟩;refine O.q 1 rfl<|O.aM (.p rfl) (.nW (T:=ag.u8) AL underlying24 eR aC rfl rfl ai (by first|assumption|exact aj.mono hg zE|exact aj.left zE|exact aj.left (aj.mono hg zE)) bJ bJ) ?_;rintro _ _ ⟨a7,iB,rfl,rfl⟩;refine O.q 1 rfl<|O.nil<|S.ret results95 rfl fun w hw=>hR _ _ w ?_ hw;exact ⟨a7,iB,by simp,by simp⟩
theorem Oj {r:Fr} (m:Nat) (hm:m≤140737488355328):ay prog 289 #[.slice none 0 0,.int .i64 (m:Int)] r [] (aL fun v U=>∃ a c,v=.slice a 0 c∧U=[av ag.u8 5 v []]):=by
 refine ay.of (n:=27) _ rfl func289 rfl rfl rfl fun g hg R hR=>?_;refine S.seq<|S.region rfl<|O.q 1 rfl<|O.nil<|S.seq<|S.seq<|S.region rfl<|O.q 1 rfl<|O.op (.p rfl) (.lss rfl rfl)<|O.nil ?_
 first|refine S.cc rfl (fun h6=>?_) (fun h6=>?_)|refine S.b7 rfl (fun h6=>?_) (fun h6=>?_)
 ·exact absurd h6 ah
 ·refine S.skip<|S.seq<|S.seq<|S.region rfl<|O.q 2 rfl<|O.op (.p rfl) (.cap rfl underlying24 rfl)<|O.q 1 rfl<|O.op (.p rfl) (.len rfl underlying24 rfl)<|O.op (.p rfl) (.sub rfl rfl (IntWalk.i64_in _ ah))<|O.op (.p rfl) (.sub rfl rfl (IntWalk.i64_in _ ah))<|O.q 1 rfl<|O.nil<|S.seq<|S.region rfl<|O.q 1 rfl<|O.op (.p rfl) (.gtr rfl rfl)<|O.nil ?_
  first|refine S.cc rfl (fun j_=>?_) (fun j_=>?_)|refine S.b7 rfl (fun j_=>?_) (fun j_=>?_)
  ·refine S.region rfl<|O.q 2 rfl<|O.op (.p rfl) (.cap rfl underlying24 rfl)<|O.op (.p rfl) (.Wo underlying24 fR rfl rfl rfl)<|O.q 1 rfl<|O.aM (.p rfl) (.Mc (T:=ag.u8) (a:=0) (m:=m) underlying24 underlying3 eR aC rfl rfl rfl ah ah ah ah) ?_
   rintro _ _ ⟨a22,ec,rfl,rfl⟩;refine O.q 1 rfl<|O.op (.p rfl) (.len rfl underlying24 rfl)<|O.aM (.p rfl) (.Nx (T:=ag.u8) (m:=0) underlying24 fR rfl rfl rfl ai ah) ?_;rintro _ _ ⟨a25,qy,rfl,rfl⟩;refine O.q 1 rfl<|O.nil<|S.seq<|S.region rfl<|O.q 2 rfl<|O.nil<|S.ret results289 rfl fun w hw=>hR _ _ w ?_ hw;exact ⟨a25,qy,rfl,by simp⟩
  ·have hm0:m=0:=by omega
   subst hm0;refine S.gh (T:=ag.u8) (e:=5) ?_;refine S.skip<|S.seq<|S.region rfl<|O.q 2 rfl<|O.nil<|S.ret results289 rfl fun w hw=>hR _ _ w ?_ hw;exact ⟨none,0,rfl,rfl⟩
theorem HI (xss:List (List UInt8)) (i:Nat) (h:i<xss.length):(xss.take (i+1)).flatten=(xss.take i).flatten++xss[i]:=by
 rw [List.take_succ_eq_append_getElem h,List.flatten_append,List.flatten_singleton]
theorem HH (xss:List (List UInt8)) (i:Nat):(xss.take i).flatten.length≤xss.flatten.length:=by
 have:xss.flatten=(xss.take i).flatten++(xss.drop i).flatten:=by rw [← List.flatten_append,List.take_append_drop]
 rw [this,List.length_append];omega
theorem Nf {r:Fr} {va:Value} {xss:List (List UInt8)} (ha:aj (ag.slice ag.u8) r va xss) (hl:xss.flatten.length≤140737488355328) :
  ay prog 216 #[va] r [] (aL fun v U=>∃ a c,v=.slice a xss.flatten.length c∧U=[av ag.u8 5 v xss.flatten]):=by
 refine ay.of (n:=36) _ rfl func216 rfl rfl rfl fun g hg R hR=>?_;have ha:=ha.mono hg;have hbd:=ha.bound;obtain ⟨a1,c1,rfl⟩:=ha.shape;refine S.seq<|S.region rfl<|O.q 1 rfl<|O.nil<|S.seq<|S.region rfl<|O.q 1 rfl<|O.nil<|S.seq<|S.seq<|S.region rfl<|O.q 1 rfl<|O.op (.p rfl) (.len rfl underlying109 rfl)<|O.q 1 rfl<|O.nil<|S.block<|S.jT (ι:=Nat) (dI:=Nat) (fun i s=>i≤xss.length∧s=(xss.take i).flatten.length) (fun i s=>[(11,.int .i64 (i:Int)),(3,.int .i64 (s:Int))]) [(0,_),(9,_),(10,_)] (fun i s=>[]) (fun i s=>xss.length - i) (0) (0) bI (.cons rfl (.cons rfl (.nil))) (.cons rfl (.cons rfl (.cons rfl (.nil)))) rfl fun i s hx ih=>?_;have aX:=cL (g:=g);obtain ⟨hx1,hs⟩:=hx;refine S.seq<|S.region rfl<|O.op (.p rfl) (.lss rfl rfl)<|O.nil (S.seq ?_)
 first|refine S.cc rfl (fun h12=>?_) (fun h12=>?_)|refine S.b7 rfl (fun h12=>?_) (fun h12=>?_)
 ·have hi:i<xss.length:=by omega
  have h1:=HI xss i hi;have h2:=HH xss (i+1);have h3:(xss.take (i+1)).flatten.length=(xss.take i).flatten.length+xss[i].length:=by rw [h1,List.length_append]
  refine S.skip<|S.seq<|S.block<|S.seq<|S.region rfl<|O.b8 (.p rfl) underlying109 uo rfl rfl rfl (by first|assumption|exact aj.mono hg zE|exact aj.left zE|exact aj.left (aj.mono hg zE)) (h:=fun Ka Ho xC xH=>?_);obtain ⟨aaG,rfl,Oz⟩:=xH;obtain ⟨iO,iR,rfl⟩:=Oz.shape;refine O.op (.p rfl) (.loadAt bc rfl xC rfl) ?_;refine O.q 1 rfl<|O.nil<|S.seq<|S.region rfl<|O.q 2 rfl<|O.op (.p rfl) (.len rfl underlying24 rfl)<|O.op (.p rfl) (.add rfl rfl (IntWalk.i64_in _ ah))<|O.q 1 rfl<|O.nil<|S.seq<|S.region rfl<|O.q 1 rfl<|O.op (.p rfl) (.lss rfl rfl)<|O.nil ?_
  first|refine S.cc rfl (fun fL=>?_) (fun fL=>?_)|refine S.b7 rfl (fun fL=>?_) (fun fL=>?_)
  ·exact absurd fL ah
  ·refine S.skip<|S.inBlock<|S.region rfl<|O.op (.p rfl) (.add rfl rfl (IntWalk.i64_in _ ah))<|O.q 1 rfl<|O.nil ?_
   exact S.dz (ih (i+1) (s+xss[i].length) ah ah)
 ·have hi:i=xss.length:=by omega
  subst hi;rw [List.take_length] at hs;subst hs;refine S.exit rfl<|S.seq<|S.region rfl<|O.q 1 rfl<|O.aB (.p rfl) rfl aa rfl rfl (Oj xss.flatten.length ah) ?_;rintro _ _ ⟨a24,k_,rfl,rfl⟩
  try simp only [an,aq,au]
  refine O.q 1 rfl<|O.nil<|S.seq<|S.seq<|S.region rfl<|O.q 1 rfl<|O.op (.p rfl) (.len rfl underlying109 rfl)<|O.q 1 rfl<|O.nil<|S.block<|S.EK (ι:=Nat) (dI:=Option Addr) (jI:=Nat) (dB:=Nat) (fun i a6 m6 dF=>i≤xss.length∧m6=(xss.take i).flatten.length) (fun i a6 m6 dF=>[(27,.int .i64 (i:Int)),(6,.slice a6 m6 dF)]) [(25,_),(26,_)] (fun i a6 m6 dF=>[av ag.u8 5 (.slice a6 m6 dF) (xss.take i).flatten]) (fun i a6 m6 dF=>xss.length - i) (0) (a24) (0) (k_) bI (.cons rfl (.cons rfl (.nil))) (.cons rfl (.cons rfl (.nil))) rfl fun i a6 m6 dF hx ih=>?_;have hm2:=cL (g:=g);obtain ⟨hx1,hs⟩:=hx;refine S.seq<|S.region rfl<|O.op (.p rfl) (.lss rfl rfl)<|O.nil (S.seq ?_)
  first|refine S.cc rfl (fun tf=>?_) (fun tf=>?_)|refine S.b7 rfl (fun tf=>?_) (fun tf=>?_)
  ·have hi:i<xss.length:=by omega
   have h1:=HI xss i hi;have h2:=HH xss (i+1);have h3:(xss.take (i+1)).flatten.length=(xss.take i).flatten.length+xss[i].length:=by rw [h1,List.length_append]
   refine S.skip<|S.seq<|S.block<|S.seq<|S.region rfl<|O.b8 (.p rfl) underlying109 uo rfl rfl rfl (by first|assumption|exact aj.mono hg zE|exact aj.left zE|exact aj.left (aj.mono hg zE)) (h:=fun T6 Nu xD Ec=>?_);obtain ⟨v29,rfl,H_⟩:=Ec;obtain ⟨a29,BW,rfl⟩:=H_.shape;refine O.op (.p rfl) (.loadAt bc rfl xD rfl) ?_;refine O.q 1 rfl<|O.nil<|S.region rfl<|O.q 2 rfl<|O.aM (.p rfl) (.nW (T:=ag.u8) AL underlying24 eR aC rfl rfl ai (by first|assumption|exact aj.mono hg zE|exact aj.left zE|exact aj.left (aj.mono hg zE)) bJ bJ) ?_;rintro _ _ ⟨a33,ML,rfl,rfl⟩;refine O.q 1 rfl<|O.nil<|S.inBlock<|S.region rfl<|O.op (.p rfl) (.add rfl rfl (IntWalk.i64_in _ ah))<|O.q 1 rfl<|O.nil ?_;rw [← h1];exact S.dz (ih (i+1) (a33) ((xss.take i).flatten.length+xss[i].length) (ML) ah ah)
  ·have hi:i=xss.length:=by omega
   subst hi;rw [List.take_length] at hs;subst hs;refine S.exit rfl<|S.seq<|S.region rfl<|O.q 2 rfl<|O.nil<|S.ret results216 rfl fun w hw=>hR _ _ w ?_ hw;exact ⟨a6,dF,rfl,by rw [List.take_length]⟩
theorem Bi {r:Fr} {va:Value} {xss:List (List UInt8)} (ha:aj (ag.slice ag.u8) r va xss) (hl:xss.flatten.length≤140737488355328) :
  ay prog 134 #[va] r [] (aL fun v U=>∃ a c,v=.slice a xss.flatten.length c∧U=[av ag.u8 5 v xss.flatten]):=by
 refine ay.of (n:=5) _ rfl func134 rfl rfl rfl fun g hg R hR=>?_;have ha:=ha.mono hg;obtain ⟨a1,c1,rfl⟩:=ha.shape;refine S.seq<|S.region rfl<|O.q 1 rfl<|O.nil<|S.seq<|S.region rfl<|O.q 1 rfl<|O.aB (.p rfl) rfl aa rfl rfl (Nf (by first|assumption|exact aj.mono hg zE|exact aj.left zE|exact aj.left (aj.mono hg zE)) bJ) ?_;rintro _ _ ⟨a4,gV,rfl,rfl⟩
 try simp only [an,aq,au]
 refine O.q 1 rfl<|O.nil<|S.ret results134 rfl fun w hw=>hR _ _ w ?_ hw;exact ⟨a4,gV,rfl,rfl⟩
theorem v_ {r:Fr} {va:Value} {xs:List UInt8} (ha:aj ag.u8 r va xs) (hl:xs.length≤100000000000000) :
  ay prog 80 #[va] r [] (aL fun v U=>∃ a c,v=.slice a (bytesOf xs).length c∧U=[av ag.u8 5 v (bytesOf xs)]):=by
 refine ay.of (n:=9) _ rfl func80 rfl rfl rfl fun g hg R hR=>?_;have ha:=ha.mono hg;obtain ⟨a1,c1,rfl⟩:=ha.shape;refine S.seq<|S.region rfl<|O.q 1 rfl<|O.nil<|S.seq<|S.region rfl<|O.q 1 rfl<|O.op (.p rfl) (.len rfl underlying24 rfl)<|O.aB (.p rfl) rfl aa rfl rfl (kq _) ?_;rintro _ _ ⟨a5,dP,rfl,rfl⟩
 try simp only [an,aq,au]
 refine O.q 1 rfl<|O.aM (.p rfl) (.ct (T:=ag.val) (ys:=[_,_]) underlying109 iC aC rfl rfl ⟨⟨rfl,rfl⟩,⟨rfl,rfl⟩,trivial⟩ aC) ?_;rintro _ _ ⟨a7,iB,rfl,rfl⟩;refine O.dw (.p rfl) rfl aa rfl rfl (bs:=[av ag.val 24 (.slice a7 2 iB) [.slice a5 8 dP,.slice a1 xs.length c1],av ag.u8 5 (.slice a5 8 dP) (be xs.length)]) bf (fun m hm hd=>Bi (xss:=[be xs.length,xs]) ((hm.arr.right hd).rows ⟨hm.tail.arr.right hd,ha.left,trivial⟩) (by simp [yY];omega)) ?_;rintro _ _ ⟨a8,n_,rfl,rfl⟩
 try simp only [an,aq,au]
 refine O.q 1 rfl<|O.nil<|S.ret results80 rfl fun w hw=>hR _ _ w ?_ hw.fst;exact ⟨a8,n_,by simp [bytesOf],by simp [bytesOf]⟩
theorem Xx {r:Fr} {va:Value} {xs:List UInt8} (ha:aj ag.u8 r va xs) (hl:xs.length≤140737488355328) :
  ay prog 343 #[va] r [] (aL fun v U=>∃ b a c,v=.pointer (some ⟨b,0,none⟩)∧U=[obj b 441 [.slice a xs.length c,.bool true,.bool false],av ag.u8 5 (.slice a xs.length c) xs]):=by
 refine ay.of (n:=8) _ rfl func343 rfl rfl rfl fun g hg R hR=>?_;have ha:=ha.mono hg;obtain ⟨a1,c1,rfl⟩:=ha.shape;refine S.seq<|S.region rfl<|O.q 1 rfl<|O.nil<|S.seq<|S.region rfl<|O.q 1 rfl<|O.aB (.p rfl) rfl aa rfl rfl (eE (by first|assumption|exact aj.mono hg zE|exact aj.left zE|exact aj.left (aj.mono hg zE)) bJ) ?_;rintro _ _ ⟨a4,gV,rfl,rfl⟩
 try simp only [an,aq,au]
 refine O.op (.p rfl) (.build (cs:=[_]) underlying439 rfl rfl rfl rfl rfl)<|O.op (.p rfl) (.build (cs:=[_,_,_]) underlying441 rfl rfl rfl rfl rfl)<|O.aM (.p rfl) (.box (cs:=[_,_,_]) rfl rfl) ?_;rintro _ _ ⟨oR,rfl,rfl⟩;refine O.q 1 rfl<|O.nil<|S.ret results343 rfl fun w hw=>hR _ _ w ?_ hw.Ob;exact ⟨oR,a4,gV,rfl,rfl⟩
theorem AO {r:Fr} {b:Nat} {v:Value} {made bad:Bool}:ay prog 377 #[.pointer (some ⟨b,0,none⟩)] r [obj b 441 [v,.bool made,.bool bad]] (aL fun u U=>u=.bool (made && !bad)∧U=[obj b 441 [v,.bool made,.bool bad]]):=by
 refine ay.of (n:=18) _ rfl func377 rfl rfl rfl fun g hg R hR=>?_;refine S.seq<|S.region rfl<|O.q 1 rfl<|O.nil<|S.seq<|S.region rfl<|O.q 1 rfl<|O.op (.p rfl) (.x9 underlying423 rfl rfl)<|O.q 2 rfl<|O.op (.g rfl rfl) (.nilCheck rfl)<|O.op (.g rfl rfl) (.aD N6 rfl)<|O.op (.g rfl rfl) (.lo ji) ?_;refine O.q 2 rfl ?_
 first|refine O.dx 11 rfl (fun h11=>?_) (fun h11=>?_)|refine O.c_ 11 rfl (fun h11=>?_) (fun h11=>?_)
 ·subst h11
  refine O.q 1 rfl<|O.op (.g rfl rfl) (.nilCheck rfl)<|O.op (.g rfl rfl) (.aD zx rfl)<|O.op (.g rfl rfl) (.lo ji) ?_;refine O.op (.g rfl rfl) ((by first|exact .lH rfl|exact .not rfl)) ?_;refine O.q 2 rfl<|O.nil<|S.ret results377 rfl fun w hw=>hR _ _ w ?_ hw;exact ⟨rfl,rfl⟩
 ·subst h11
  refine O.q 7 rfl<|O.nil<|S.ret results377 rfl fun w hw=>hR _ _ w ?_ hw;exact ⟨rfl,rfl⟩
theorem Uy {r:Fr} {b:Nat} {v:Value} {rest:List UInt8} {made bad:Bool} (ha:aj ag.u8 r v rest):ay prog 348 #[.pointer (some ⟨b,0,none⟩)] r [obj b 441 [v,.bool made,.bool bad]] (aL fun u U=>u=.bool (decide ((made && !bad)=true∧rest=[]))∧U=[obj b 441 [v,.bool made,.bool bad]]):=by
 refine ay.of (n:=14) _ rfl func348 rfl rfl rfl fun g hg R hR=>?_;obtain ⟨a1,c1,rfl⟩:=ha.shape;refine S.seq<|S.region rfl<|O.q 1 rfl<|O.nil<|S.seq<|S.region rfl<|O.q 1 rfl<|O.bM (.p rfl) rfl aa rfl rfl ai AO ?_;rintro _ _ ⟨rfl,rfl⟩
 try simp only [an,aq,au]
 refine O.q 1 rfl ?_
 first|refine O.dx 5 rfl (fun h5=>?_) (fun h5=>?_)|refine O.c_ 5 rfl (fun h5=>?_) (fun h5=>?_)
 ·refine O.q 1 rfl<|O.op (.g rfl rfl) (.nilCheck rfl)<|O.op (.g rfl rfl) (.aD vg rfl)<|O.op (.g rfl rfl) (.aD wY rfl)<|O.op (.g rfl rfl) (.lo bc) ?_
  refine O.op (.g rfl rfl) (.len rfl underlying24 rfl)<|O.op (.g rfl rfl) (.eql rfl rfl)<|O.q 2 rfl<|O.nil<|S.ret results348 rfl fun w hw=>hR _ _ w ?_ hw;refine ⟨?_,rfl⟩
  simp [h5]
 ·refine O.q 9 rfl<|O.nil<|S.ret results348 rfl fun w hw=>hR _ _ w ?_ hw
  refine ⟨?_,rfl⟩
  simp [h5]
def missing:List PanicEntry:=[{ v:=.iface 459 (.agg #[]),recovered:=false }]
theorem Aq {r:Fr} (b:Bool):ay prog 391 #[.bool b] r [] (eL (fun v U=>b=true∧v=.tuple #[]∧U=[]) (fun ch U=>b=false∧ch=missing∧U=[])):=by
 refine ay.of (n:=6) _ rfl func391 rfl rfl rfl fun g hg R hR=>?_;refine S.seq<|S.region rfl<|O.q 1 rfl<|O.op (.p rfl) ((by first|exact .lH rfl|exact .not rfl)) ?_;refine O.nil ?_
 first|refine S.cc rfl (fun h3=>?_) (fun h3=>?_)|refine S.b7 rfl (fun h3=>?_) (fun h3=>?_)
 ·refine S.region rfl<|O.op (.p rfl) (.build (cs:=[]) underlying459 rfl rfl rfl rfl rfl)<|O.op (.p rfl) (.JK underlying459 rfl)<|O.panic rfl rfl (fun w hw=>?_)
  exact hR _ [] w ⟨by simpa using h3,rfl,rfl⟩ hw
 ·refine S.skip<|S.ev results391 fun w hw=>hR _ _ w ?_ hw
  exact ⟨by simpa using h3,rfl,rfl⟩
theorem FM {r:Fr} {b T:Nat} {v:Value} {cs:List Value} {rest:List UInt8} (n:Int) (ha:aj ag.u8 r v rest) :
  ay prog 372 #[.pointer (some ⟨b,0,none⟩),.int .i64 n] r [obj b T (v::cs)]
   (eL (fun u U=>(0≤n∧n≤rest.length)∧∃ a c v',u=.slice a (rest.take n.toNat).length c∧aj ag.u8 r (.slice a (rest.take n.toNat).length c) (rest.take n.toNat)∧aj ag.u8 r v' (rest.drop n.toNat)∧U=[obj b T (v' ::cs)]) (fun ch U=>¬(0≤n∧n≤rest.length)∧ch=missing∧U=[obj b T (v::cs)])):=by
 refine ay.of (n:=34) _ rfl func372 rfl rfl rfl fun g hg R hR=>?_;have hbd:=ha.bound;obtain ⟨a1,c1,rfl⟩:=ha.shape;refine S.seq<|S.region rfl<|O.q 1 rfl<|O.nil<|S.seq<|S.region rfl<|O.q 1 rfl<|O.op (.p rfl) (.geq rfl rfl)<|O.q 1 rfl ?_
 first|refine O.dx 8 rfl (fun h8=>?_) (fun h8=>?_)|refine O.c_ 8 rfl (fun h8=>?_) (fun h8=>?_)
 ·refine O.q 2 rfl<|O.op (.g rfl rfl) (.nilCheck rfl)<|O.op (.g rfl rfl) (.aD wY rfl)<|O.op (.g rfl rfl) (.lo bc) ?_
  refine O.op (.g rfl rfl) (.len rfl underlying24 rfl)<|O.op (.g rfl rfl) (.leq rfl rfl)<|O.q 1 rfl<|O.kS (.p rfl) rfl aa rfl rfl (Aq _) (fun ch ax w hX hW=>by (obtain ⟨hb,rfl,rfl⟩:=hX;exact hR _ _ w ⟨by simp at hb;omega,rfl,rfl⟩ hW)) ?_;rintro _ _ ⟨Dr,rfl,rfl⟩
  try simp only [an,aq,au]
  have hb:0≤n∧n≤rest.length:=by simp at Dr;omega
  refine O.nil<|S.seq<|S.region rfl<|O.q 1 rfl<|O.op (.p rfl) (.nilCheck rfl)<|O.op (.p rfl) (.aD wY rfl)<|O.op (.p rfl) (.lo bc) ?_;refine O.q 1 rfl<|O.sliceTo (b:=n.toNat) (.p rfl) underlying24 fR rfl rfl zE bJ bJ (fun aay H9=>?_);obtain ⟨a23,BV,rfl⟩:=H9.shape;refine O.q 1 rfl<|O.nil<|S.seq<|S.region rfl<|O.q 2 rfl<|O.op (.p rfl) (.nilCheck rfl)<|O.op (.p rfl) (.aD wY rfl)<|O.op (.p rfl) (.lo bc) ?_;refine O.q 1 rfl<|O.sliceFrom (a:=n.toNat) (.p rfl) underlying24 fR rfl rfl zE bJ bJ (fun aaA Ia=>?_);obtain ⟨BK,BX,rfl⟩:=Ia.shape;refine O.op (.p rfl) (.nilCheck rfl)<|O.op (.p rfl) (.aD wY rfl)<|O.bu rfl (.bn bc rfl rfl bq ai aW) ?_;refine O.nil<|S.seq<|S.region rfl<|O.q 2 rfl<|O.nil<|S.ret results372 rfl fun w hw=>hR _ _ w ?_ hw;exact ⟨hb,_,_,_,rfl,H9,Ia,rfl⟩
 ·refine O.q 8 rfl<|O.kS (.p rfl) rfl aa rfl rfl (Aq _) (fun ch ax w hX hW=>by (obtain ⟨hb,rfl,rfl⟩:=hX;exact hR _ _ w ⟨by omega,rfl,rfl⟩ hW)) ?_
  rintro _ _ ⟨Dr,rfl,rfl⟩
  try simp only [an,aq,au]
  exact absurd Dr bI
theorem TM {α:Type} {rest:List α} (h:(0:Int)≤1∧(1:Int)≤rest.length):∃ x xs,rest=x::xs:=by
 cases rest with
 |nil=>simp at h
 |cons x xs=>exact ⟨x,xs,rfl⟩
theorem TA {α:Type} {rest:List α} (h:¬((0:Int)≤1∧(1:Int)≤rest.length)):rest=[]:=by
 cases rest with
 |nil=>rfl
 |cons x xs=>simp at h;omega
theorem TL {r:Fr} {b T:Nat} {v:Value} {cs:List Value} {rest:List UInt8} (ha:aj ag.u8 r v rest) :
  ay prog 369 #[.pointer (some ⟨b,0,none⟩)] r [obj b T (v::cs)]
   (eL (fun u U=>∃ x xs v',rest=x::xs∧u=bD x∧aj ag.u8 r v' xs∧U=[obj b T (v' ::cs)]) (fun ch U=>rest=[]∧ch=missing∧U=[obj b T (v::cs)])):=by
 refine ay.of (n:=7) _ rfl func369 rfl rfl rfl fun g hg R hR=>?_;refine S.seq<|S.region rfl<|O.q 1 rfl<|O.nil<|S.seq<|S.region rfl<|O.q 1 rfl<|O.qA (.p rfl) rfl aa rfl rfl ai ((FM 1 ha).sub hg) (fun ch ax w hX hW=>by (obtain ⟨hb,rfl,rfl⟩:=hX;exact hR _ _ w ⟨TA hb,rfl,rfl⟩ hW)) ?_;rintro v4 _ ⟨hb4,a4,gV,v4,rfl,YL,OJ,rfl⟩
 try simp only [an,aq,au]
 obtain ⟨x,xs,rfl⟩:∃ x xs,rest=x::xs:=TM hb4;refine O.b8 (.p rfl) underlying24 fR rfl rfl (show _=((0:Nat):Int) from rfl) (by first|assumption|exact aj.mono hg zE|exact aj.left zE|exact aj.left (aj.mono hg zE)) (h:=fun aac Yh Qg QB=>?_)
 cases QB
 refine O.op (.p rfl) (.loadAt lu rfl Qg rfl) ?_;refine O.q 1 rfl<|O.nil<|S.ret results369 rfl fun w hw=>hR _ _ w ?_ hw;exact ⟨x,xs,_,rfl,rfl,OJ,rfl⟩
theorem J3 {r:Fr} {b T:Nat} {v:Value} {cs:List Value} {rest:List UInt8} (ha:aj ag.u8 r v rest) :
  ay prog 375 #[.pointer (some ⟨b,0,none⟩)] r [obj b T (v::cs)]
   (eL (fun u U=>8≤rest.length∧∃ v',u=.int .i64 (eV rest)∧aj ag.u8 r v' (rest.drop 8)∧U=[obj b T (v' ::cs)]) (fun ch U=>rest.length<8∧ch=missing∧U=[obj b T (v::cs)])):=by
 refine ay.of (n:=21) _ rfl func375 rfl rfl rfl fun g hg R hR=>?_;refine S.seq<|S.region rfl<|O.q 1 rfl<|O.nil<|S.seq<|S.region rfl<|O.q 1 rfl<|O.nil<|S.seq<|S.seq<|S.region rfl<|O.q 1 rfl<|O.qA (.p rfl) rfl aa rfl rfl ai ((FM 8 ha).sub hg) (fun ch ax w hX hW=>by (obtain ⟨hb,rfl,rfl⟩:=hX;exact hR _ _ w ⟨by omega,rfl,rfl⟩ hW)) ?_;rintro mC _ ⟨YR,a7,iB,mC,rfl,vq,OW,rfl⟩
 try simp only [an,aq,au]
 refine O.op (.p rfl) (.len rfl underlying24 rfl)<|O.q 1 rfl<|O.nil (S.block ?_);have IC:(rest.take (Int.toNat 8)).length=8:=by simp;omega
 refine S.e6 (ι:=Nat) (fun i=>i≤8) (fun i=>[(9,.int .i64 (i:Int)),(3,.int .u64 (nt (rest.take i):Nat))]) [(7,_),(8,_)] (fun i=>[obj b T (mC::cs)]) (fun i=>8 - i) (0) bI (.cons rfl (.cons rfl (.nil))) (.cons rfl (.cons rfl (.nil))) rfl fun i hx ih=>?_;have aX:=cL (g:=g);refine S.seq<|S.region rfl<|O.op (.p rfl) (.lss rfl rfl)<|O.nil (S.seq ?_)
 first|refine S.cc rfl (fun h10=>?_) (fun h10=>?_)|refine S.b7 rfl (fun h10=>?_) (fun h10=>?_)
 ·have hi:i<8:=by omega
  refine S.skip<|S.seq<|S.block<|S.seq<|S.region rfl<|O.b8 (.p rfl) underlying24 fR rfl rfl rfl (by first|assumption|exact aj.mono hg zE|exact aj.left zE|exact aj.left (aj.mono hg zE)) (h:=fun T2 Nq DP IM=>?_)
  cases IM
  refine O.op (.p rfl) (.loadAt lu rfl DP rfl) ?_;refine O.q 1 rfl<|O.nil<|S.region rfl<|O.q 1 rfl<|O.op (.p rfl) (.shl rfl rfl ah)<|O.q 1 rfl<|O.op (.p rfl) (.lU underlying5 underlying274 rfl)<|O.op (.p rfl) (.or rfl rfl)<|O.q 1 rfl<|O.nil<|S.inBlock<|S.region rfl<|O.op (.p rfl) (.add rfl rfl (IntWalk.i64_in _ ah))<|O.q 1 rfl<|O.nil ?_;rw [TY _ _ (Mr rest i hi),show (rest.take (Int.toNat 8))[i]=rest[i] from by simp,← GJ rest i ah];exact S.dz (ih (i+1) ah ah)
 ·have hi:i=8:=by omega
  subst hi;refine S.exit rfl<|S.seq<|S.region rfl<|O.q 1 rfl<|O.op (.p rfl) (.lU underlying274 underlying3 rfl)<|O.q 1 rfl<|O.nil<|S.ret results375 rfl fun w hw=>hR _ _ w ?_ hw;exact ⟨by omega,mC,by rw [XC _ (Nat.lt_of_lt_of_le (BS rest 8) aC)];rfl,OW,rfl⟩
theorem Jj {r:Fr} (x:Int):ay prog 330 #[.int .i64 x] r [] (aL fun v U=>v=.bool false∧U=[]):=by
 refine ay.of (n:=6) _ rfl func330 rfl rfl rfl fun g hg R hR=>?_;refine S.seq<|S.region rfl<|O.q 1 rfl<|O.nil<|S.seq<|S.region rfl<|O.q 2 rfl<|O.op (.p rfl) (.neq rfl rfl)<|O.aN 5 rfl bI ?_;refine O.q 1 rfl<|O.nil ?_;exact S.rt results330 rfl hR ⟨rfl,rfl⟩
theorem Cf {r:Fr} (x y:Int):ay prog 294 #[.int .i64 x,.int .i64 y] r [] (aL fun v U=>v=.int .i64 (kF x y)∧U=[]):=by
 refine ay.of (n:=20) _ rfl func294 rfl rfl rfl fun g hg R hR=>?_;refine S.seq<|S.region rfl<|O.q 1 rfl<|O.nil<|S.seq<|S.region rfl<|O.q 1 rfl<|O.aB (.p rfl) rfl aa rfl rfl (Jj _) ?_;rintro _ _ ⟨rfl,rfl⟩
 try simp only [an,aq,au]
 refine O.q 1 rfl<|O.nil<|S.seq<|S.region rfl<|O.q 1 rfl<|O.aB (.p rfl) rfl aa rfl rfl (Jj _) ?_;rintro _ _ ⟨rfl,rfl⟩
 try simp only [an,aq,au]
 refine O.q 1 rfl<|O.nil<|S.seq<|S.seq<|S.region rfl<|O.q 1 rfl<|O.nil<|S.aQ rfl<|S.skip<|S.seq<|S.seq<|S.region rfl<|O.q 1 rfl<|O.nil<|S.aQ rfl<|S.skip<|S.seq<|S.seq<|S.region rfl<|O.q 2 rfl<|O.op (.p rfl) (.lss rfl rfl)<|O.nil ?_
 first|refine S.cc rfl (fun j_=>?_) (fun j_=>?_)|refine S.b7 rfl (fun j_=>?_) (fun j_=>?_)
 ·refine S.seq<|S.region rfl<|O.q 1 rfl<|O.nil ?_
  exact S.rt results294 rfl hR ⟨by simp [kF,j_],rfl⟩
 ·refine S.skip<|S.seq<|S.seq<|S.region rfl<|O.q 2 rfl<|O.op (.p rfl) (.gtr rfl rfl)<|O.nil ?_
  first|refine S.cc rfl (fun td=>?_) (fun td=>?_)|refine S.b7 rfl (fun td=>?_) (fun td=>?_)
  ·refine S.seq<|S.region rfl<|O.q 1 rfl<|O.nil ?_
   exact S.rt results294 rfl hR ⟨by simp only [kF];rw [if_neg ah,if_pos ah],rfl⟩
  ·refine S.skip<|S.seq<|S.region rfl<|O.q 1 rfl<|O.nil ?_
   exact S.rt results294 rfl hR ⟨by simp only [kF];rw [if_neg ah,if_neg ah],rfl⟩
def nx:List Int→Int
 |[]=>0
 |x::l=>if x≠0 then x else nx l
theorem NZ {l:List Int} {i:Nat} (h:i<l.length):nx (l.drop i)=if l[i]≠0 then l[i] else nx (l.drop (i+1)):=by
 rw [List.drop_eq_getElem_cons h];rfl
theorem M3 {r:Fr} {va:Value} {l:List Int} (ha:aj ag.i64 r va l):ay prog 293 #[va] r [] (aL fun v U=>v=.int .i64 (nx l)∧U=[]):=by
 refine ay.of (n:=18) _ rfl func293 rfl rfl rfl fun g hg R hR=>?_;have ha:=ha.mono hg;have hbd:=ha.bound;obtain ⟨a1,c1,rfl⟩:=ha.shape;refine S.seq<|S.region rfl<|O.q 1 rfl<|O.nil<|S.seq<|S.region rfl<|O.q 1 rfl<|O.nil<|S.seq<|S.seq<|S.region rfl<|O.q 1 rfl<|O.op (.p rfl) (.len rfl underlying104 rfl)<|O.q 1 rfl<|O.nil<|S.block<|S.e6 (ι:=Nat) (fun i=>i≤l.length∧nx (l.drop i)=nx l) (fun i=>[(8,.int .i64 (i:Int))]) [(3,_),(6,_),(7,_)] (fun i=>[]) (fun i=>l.length - i) (0) bI (.cons rfl (.nil)) (.cons rfl (.cons rfl (.cons rfl (.nil)))) rfl fun i hx ih=>?_;have aX:=cL (g:=g);obtain ⟨hx1,hx2⟩:=hx;refine S.seq<|S.region rfl<|O.op (.p rfl) (.lss rfl rfl)<|O.nil (S.seq ?_)
 first|refine S.cc rfl (fun h9=>?_) (fun h9=>?_)|refine S.b7 rfl (fun h9=>?_) (fun h9=>?_)
 ·have hi:i<l.length:=by omega
  rw [NZ hi] at hx2;refine S.skip<|S.seq<|S.block<|S.seq<|S.region rfl<|O.b8 (.p rfl) underlying104 uq rfl rfl rfl (by first|assumption|exact aj.mono hg zE|exact aj.left zE|exact aj.left (aj.mono hg zE)) (h:=fun AE y9 l9 mc=>?_);obtain ⟨rfl,Zv⟩:=mc;refine O.op (.p rfl) (.loadAt cv rfl l9 rfl) ?_;refine O.q 1 rfl<|O.nil<|S.seq<|S.region rfl<|O.q 2 rfl<|O.op (.p rfl) (.neq rfl rfl)<|O.nil ?_
  first|refine S.cc rfl (fun e9=>?_) (fun e9=>?_)|refine S.b7 rfl (fun e9=>?_) (fun e9=>?_)
  ·rw [if_pos e9] at hx2
   clear ih;refine S.seq<|S.region rfl<|O.q 2 rfl<|O.nil ?_;exact S.rt results293 rfl hR ⟨by rw [hx2],rfl⟩
  ·rw [if_neg e9] at hx2
   refine S.skip<|S.inBlock<|S.region rfl<|O.op (.p rfl) (.add rfl rfl (IntWalk.i64_in _ ah))<|O.q 1 rfl<|O.nil ?_;exact S.dz (ih (i+1) (by exact ⟨by omega,hx2⟩) ah)
 ·clear ih
  have hi:i=l.length:=by omega
  subst hi;rw [List.drop_length] at hx2;refine S.exit rfl<|S.seq<|S.region rfl<|O.q 2 rfl<|O.nil ?_;exact S.rt results293 rfl hR ⟨by rw [← hx2];rfl,rfl⟩
theorem G3 {r:Fr} {e:TypeId} {va:Value} {l:List Int}:ay prog 293 #[va] r [av ag.i64 e va l] (aL fun v U=>v=.int .i64 (nx l)∧U=[]) :=
 ay.xY (U:=[]) (bs:=[_]) fun _ hm hd=>M3 (hm.arr.right hd)
theorem yE {r:Fr} {a b:Int} (d:dn) (h:d=(a,b,())):ay prog 356 #[.agg #[.int .i64 a,.int .i64 b]] r [] (aL fun v U=>v=.bool (mI d)∧U=[]):=by
 subst h;refine ay.of (n:=21) _ rfl func356 rfl rfl rfl fun g hg R hR=>?_;refine S.seq<|S.region rfl<|O.aM (.p rfl) (.box (cs:=[_,_]) rfl rfl) ?_;rintro _ _ ⟨b1,rfl,rfl⟩;refine O.q 1 rfl<|O.nil<|S.seq<|S.region rfl<|O.op (.p rfl) (.aD s_ rfl)<|O.op (.p rfl) (.lo cv) ?_;refine O.op (.p rfl) (.geq rfl rfl)<|O.q 1 rfl ?_
 first|refine O.dx 6 rfl (fun h6=>?_) (fun h6=>?_)|refine O.c_ 6 rfl (fun h6=>?_) (fun h6=>?_)
 ·refine O.op (.g rfl rfl) (.aD s_ rfl)<|O.op (.g rfl rfl) (.lo cv) ?_
  refine O.op (.g rfl rfl) (.leq rfl rfl)<|O.q 2 rfl ?_
  first|refine O.dx 11 rfl (fun h11=>?_) (fun h11=>?_)|refine O.c_ 11 rfl (fun h11=>?_) (fun h11=>?_)
  ·refine O.op (.g rfl rfl) (.aD wX rfl)<|O.op (.g rfl rfl) (.lo cv) ?_
   refine O.op (.g rfl rfl) (.geq rfl rfl)<|O.q 2 rfl ?_
   first|refine O.dx 16 rfl (fun j_=>?_) (fun j_=>?_)|refine O.c_ 16 rfl (fun j_=>?_) (fun j_=>?_)
   ·refine O.op (.g rfl rfl) (.aD wX rfl)<|O.op (.g rfl rfl) (.lo cv) ?_
    refine O.op (.g rfl rfl) (.leq rfl rfl)<|O.q 2 rfl<|O.nil ?_;exact S.rt results356 rfl hR ⟨congrArg _ (decide_eq_decide.2 (by simp only [true_and,and_true];omega)),rfl⟩
   ·refine O.q 5 rfl<|O.nil ?_
    exact S.rt results356 rfl hR ⟨congrArg _ (decide_eq_false (by simp only [];omega)).symm,rfl⟩
  ·refine O.q 10 rfl<|O.nil ?_
   exact S.rt results356 rfl hR ⟨congrArg _ (decide_eq_false (by simp only [];omega)).symm,rfl⟩
 ·refine O.q 15 rfl<|O.nil ?_
  exact S.rt results356 rfl hR ⟨congrArg _ (decide_eq_false (by simp only [];omega)).symm,rfl⟩
theorem NL {r:Fr} {va:Value} {v:List dn} (ha:aj c5 r va v):ay prog 382 #[va] r [] (aL fun u U=>u=.bool (jZ v)∧U=[]):=by
 refine ay.of (n:=31) _ rfl func382 rfl rfl rfl fun g hg R hR=>?_;have ha:=ha.mono hg;have hbd:=ha.bound;obtain ⟨a1,c1,rfl⟩:=ha.shape;refine S.seq<|S.region rfl<|O.q 1 rfl<|O.nil<|S.seq<|S.seq<|S.region rfl<|O.q 1 rfl<|O.op (.p rfl) (.len rfl underlying428 rfl)<|O.q 1 rfl<|O.nil<|S.block<|S.e6 (ι:=Nat) (fun k=>k≤v.length∧jZ (v.take k)=true) (fun k=>[(7,.int .i64 (k:Int))]) [(0,_),(5,_),(6,_)] (fun k=>[]) (fun k=>v.length - k) (0) (by exact ⟨by simp,rfl⟩) (.cons rfl (.nil)) (.cons rfl (.cons rfl (.cons rfl (.nil)))) rfl fun k hx ih=>?_;have aX:=cL (g:=g);obtain ⟨hx1,hx2⟩:=hx;refine S.seq<|S.region rfl<|O.op (.p rfl) (.lss rfl rfl)<|O.nil (S.seq ?_)
 first|refine S.cc rfl (fun h8=>?_) (fun h8=>?_)|refine S.b7 rfl (fun h8=>?_) (fun h8=>?_)
 ·have hk:k<v.length:=by omega
  have hst:=Xt hk hx2
  by_cases hd:mI v[k]=true
  ·by_cases h0:k=0
   ·
    refine S.skip<|S.seq<|S.block<|S.seq<|S.region rfl<|O.q 1 rfl<|O.b8 (.p rfl) underlying428 oG rfl rfl rfl (by first|assumption|exact aj.mono hg zE|exact aj.left zE|exact aj.left (aj.mono hg zE)) (h:=fun AE y9 l9 mc=>?_);obtain ⟨rfl,Ix,Iy⟩:=c5.open mc;refine O.op (.p rfl) (.bz isAgg191 aa rfl l9) ?_;refine O.aM (.p rfl) (.alloc (cs:=[.int .i64 0,.int .i64 0]) zeroValue191 rfl) ?_;rintro _ _ ⟨b4,rfl,rfl⟩;refine O.q 1 rfl<|O.bu rfl (.cZ aa rfl rfl rfl rfl ai aW) ?_;refine O.nil<|S.seq<|S.cW ai fun g hs hm h4=>?_;replace hg:=Fr.aH hg hs;replace hR:=bp hR hm
    try replace ha:=ha.mono hs
    try replace l9:=l9.mono hs
    try replace mc:=mc.mono hs
    replace aX:=dH aX hm;clear hs hm;refine S.bB (L:=[0,1,2,3,4,5,6,7,8,9,10,11,12,13,14,15,16,17]) bA aa ?_;refine .quiet (.p rfl) rfl (fun _=>.bz isAgg191 aa rfl h4) ?_;refine af.aB (.p rfl) aa rfl aa rfl rfl (yE v[k] rfl) ?_;rintro _ _ ⟨rfl,rfl⟩
    try simp only [an,aq,au]
    refine af.sT 13 rfl (by exact hd) ?_;refine .quiet (.p rfl) rfl (fun _=>.not rfl)<|af.q 2 rfl<|.quiet (.g rfl rfl) rfl (fun _=>.gtr rfl rfl)<|af.aN 17 rfl b5 ?_;refine af.q 12 rfl<|aI.nil<|S.aQ rfl<|S.skip<|S.inBlock<|S.region rfl<|O.op (.p rfl) (.add rfl rfl (IntWalk.i64_in _ ah))<|O.q 1 rfl<|O.nil ?_;exact S.ic aX (S.dz (ih (k+1) (by exact ⟨by omega,hst.2 ⟨hd,fun h=>absurd h ah⟩⟩) ah))
   ·have oh:k - 1<v.length:=by omega
    refine S.skip<|S.seq<|S.block<|S.seq<|S.region rfl<|O.q 1 rfl<|O.b8 (.p rfl) underlying428 oG rfl rfl rfl (by first|assumption|exact aj.mono hg zE|exact aj.left zE|exact aj.left (aj.mono hg zE)) (h:=fun AE y9 l9 mc=>?_);obtain ⟨rfl,Ix,Iy⟩:=c5.open mc;refine O.op (.p rfl) (.bz isAgg191 aa rfl l9) ?_;refine O.aM (.p rfl) (.alloc (cs:=[.int .i64 0,.int .i64 0]) zeroValue191 rfl) ?_;rintro _ _ ⟨b4,rfl,rfl⟩;refine O.q 1 rfl<|O.bu rfl (.cZ aa rfl rfl rfl rfl ai aW) ?_;refine O.nil<|S.seq<|S.cW ai fun g hs hm h4=>?_;replace hg:=Fr.aH hg hs;replace hR:=bp hR hm
    try replace ha:=ha.mono hs
    try replace l9:=l9.mono hs
    try replace mc:=mc.mono hs
    replace aX:=dH aX hm;clear hs hm;refine S.bB (L:=[0,1,2,3,4,5,6,7,8,9,10,11,12,13,14,15,16,17]) bA aa ?_;refine .quiet (.p rfl) rfl (fun _=>.bz isAgg191 aa rfl h4) ?_;refine af.aB (.p rfl) aa rfl aa rfl rfl (yE v[k] rfl) ?_;rintro _ _ ⟨rfl,rfl⟩
    try simp only [an,aq,au]
    refine af.sT 13 rfl (by exact hd) ?_;refine .quiet (.p rfl) rfl (fun _=>.not rfl)<|af.q 2 rfl<|.quiet (.g rfl rfl) rfl (fun _=>.gtr rfl rfl)<|af.sT 17 rfl b5 ?_;refine af.q 3 rfl<|.quiet (.g rfl rfl) rfl (fun _=>.sub rfl rfl (IntWalk.i64_in _ ah))<|af.b8 (.g rfl rfl) underlying428 oG rfl rfl (show _=(((k - 1):Nat):Int) by omega) (by first|assumption|exact aj.mono hg zE|exact aj.left zE|exact aj.left (aj.mono hg zE)) (h:=fun Z7 Yb Qb Qx=>?_);obtain ⟨rfl,YZ,Y4⟩:=c5.open Qx;refine .quiet (.g rfl rfl) rfl (fun _=>.fieldAddr s_ rfl)<|.quiet (.g rfl rfl) rfl (fun _=>.loadAt cv rfl Qb rfl) ?_;refine .quiet (.g rfl rfl) rfl (fun _=>.fieldAddr s_ rfl)<|.quiet (.g rfl rfl) rfl (fun _=>.loadAt cv rfl h4 rfl) ?_;refine .quiet (.g rfl rfl) rfl (fun _=>.geq rfl rfl)<|af.q 2 rfl<|aI.nil ?_
    first|refine S.cc rfl (fun CP=>?_) (fun CP=>?_)|refine S.b7 rfl (fun CP=>?_) (fun CP=>?_)
    ·refine S.seq<|S.region rfl<|O.q 1 rfl<|O.nil<|S.ret results382 rfl fun w hw=>Holds.end_ hR hw ?_
     refine ⟨_,⟨?_,rfl⟩,by repeat (first|exact aS|exact aU|(apply aT;focus (repeat (first|exact aR|apply zt)))|apply aV)⟩
     congr 1;symm
     refine LA (i:=k+1) ?_;rw [Bool.eq_false_iff]
     intro e
     have:=(hst.1 e).2 ah
     omega
    ·refine S.skip<|S.inBlock<|S.region rfl<|O.op (.p rfl) (.add rfl rfl (IntWalk.i64_in _ ah))<|O.q 1 rfl<|O.nil ?_
     exact S.ic aX (S.dz (ih (k+1) (by exact ⟨by omega,hst.2 ⟨hd,fun _=>by omega⟩⟩) ah))
  ·have l7 :mI v[k]=false:=by simpa using hd
   refine S.skip<|S.seq<|S.block<|S.seq<|S.region rfl<|O.q 1 rfl<|O.b8 (.p rfl) underlying428 oG rfl rfl rfl (by first|assumption|exact aj.mono hg zE|exact aj.left zE|exact aj.left (aj.mono hg zE)) (h:=fun AE y9 l9 mc=>?_);obtain ⟨rfl,Ix,Iy⟩:=c5.open mc;refine O.op (.p rfl) (.bz isAgg191 aa rfl l9) ?_;refine O.aM (.p rfl) (.alloc (cs:=[.int .i64 0,.int .i64 0]) zeroValue191 rfl) ?_;rintro _ _ ⟨b4,rfl,rfl⟩;refine O.q 1 rfl<|O.bu rfl (.cZ aa rfl rfl rfl rfl ai aW) ?_;refine O.nil<|S.seq<|S.cW ai fun g hs hm h4=>?_;replace hg:=Fr.aH hg hs;replace hR:=bp hR hm
   try replace ha:=ha.mono hs
   try replace l9:=l9.mono hs
   try replace mc:=mc.mono hs
   replace aX:=dH aX hm;clear hs hm;refine S.bB (L:=[0,1,2,3,4,5,6,7,8,9,10,11,12,13,14,15,16,17]) bA aa ?_;refine .quiet (.p rfl) rfl (fun _=>.bz isAgg191 aa rfl h4) ?_;refine af.aB (.p rfl) aa rfl aa rfl rfl (yE v[k] rfl) ?_;rintro _ _ ⟨rfl,rfl⟩
   try simp only [an,aq,au]
   refine af.aN 13 rfl (by exact l7) ?_;refine .quiet (.p rfl) rfl (fun _=>.not rfl)<|af.q 15 rfl<|aI.nil<|S.bx rfl<|S.seq<|S.region rfl<|O.q 1 rfl<|O.nil ?_;clear ih;refine S.ret results382 rfl fun w hw=>Holds.end_ hR hw ?_;refine ⟨_,⟨?_,rfl⟩,by repeat (first|exact aS|exact aU|(apply aT;focus (repeat (first|exact aR|apply zt)))|apply aV)⟩
   congr 1;symm
   refine LA (i:=k+1) ?_;rw [Bool.eq_false_iff]
   intro e
   exact hd (hst.1 e).1
 ·clear ih
  have hk:k=v.length:=by omega
  subst hk;rw [List.take_length] at hx2;refine S.exit rfl<|S.seq<|S.region rfl<|O.q 1 rfl<|O.nil ?_;exact S.rt results382 rfl hR ⟨by rw [hx2],rfl⟩
theorem GC {r:Fr} {a b c:Int}:ay prog 395 #[.agg #[.int .i64 a,.int .i64 b],.int .i64 c] r [] (aL fun u U=>u=.int .i64 (kF a c)∧U=[]):=by
 refine ay.of (n:=9) _ rfl func395 rfl rfl rfl fun g hg R hR=>?_;refine S.seq<|S.region rfl<|O.aM (.p rfl) (.box (cs:=[_,_]) rfl rfl) ?_;rintro _ _ ⟨b2,rfl,rfl⟩;refine O.q 1 rfl<|O.nil<|S.seq<|S.region rfl<|O.op (.p rfl) (.aD s_ rfl)<|O.op (.p rfl) (.lo cv) ?_;refine O.q 1 rfl<|O.aB (.p rfl) rfl aa rfl rfl (Cf _ _) ?_;rintro _ _ ⟨rfl,rfl⟩
 try simp only [an,aq,au]
 refine O.q 1 rfl<|O.nil ?_;exact S.rt results395 rfl hR ⟨rfl,rfl⟩
theorem Ih {s:Nat} (h:s≤18446744073709551614 / 2):IntKind.i64.wrap ((IntKind.u64.wrap (s:Int)).fdiv (2 ^ min (1:Int).toNat IntKind.u64.bits))=((s / 2:Nat):Int):=by
 have e:IntKind.u64.wrap (s:Int)=(s:Int):=by rw [uz];unfold u64;omega
 rw [e,IntKind.wrap_i64];have:(2:Int) ^ min (1:Int).toNat IntKind.u64.bits=2:=by decide
 rw [this];have h2:(s:Int).fdiv 2=((s / 2:Nat):Int):=by rw [Int.fdiv_eq_ediv_of_nonneg _ ah];omega
 rw [h2];omega
theorem MD {r:Fr} {va:Value} {v:List dn} (c:Int) (ha:aj c5 r va v) (hv:sR v) (hl:v.length≤1000000000000):ay prog 394 #[va,.int .i64 c,.func (.func 395) #[] #[]] r []
  (aL fun u U=>∃ (k:Nat) (b:Bool),u=.tuple #[.int .i64 (k:Int),.bool b]∧k≤v.length∧(b=true→∃ h:k<v.length,v[k].1=c)∧(b=false→∀ i (hi:i<v.length),v[i].1≠c)∧U=[]):=by
 refine ay.of (n:=49) _ rfl func394 rfl rfl rfl fun g hg R hR=>?_;have ha:=ha.mono hg;obtain ⟨a1,c1,rfl⟩:=ha.shape;have hlt:∀ i j (hi:i<v.length) (hj:j<v.length),i<j→v[i].1<v[j].1:=fun i j hi hj h=>List.pairwise_iff_getElem.1 hv i j hi hj h;refine S.seq<|S.region rfl<|O.q 2 rfl<|O.nil<|S.seq<|S.region rfl<|O.q 1 rfl<|O.op (.p rfl) (.len rfl underlying428 rfl)<|O.q 1 rfl<|O.nil<|S.seq<|S.region rfl<|O.q 3 rfl<|O.nil<|S.seq<|S.block<|S.jT (ι:=Nat) (dI:=Nat) (fun i j=>i≤j∧j≤v.length∧(∀ q (hq:q<v.length),q<i→v[q].1<c)∧(∀ q (hq:q<v.length),j≤q→c≤v[q].1)) (fun i j=>[(9,.int .i64 (i:Int)),(10,.int .i64 (j:Int))]) [(0,_),(1,_),(2,_),(8,_)] (fun i j=>[]) (fun i j=>j - i) (0) (v.length) (by exact ⟨by omega,by omega,fun q _ h=>absurd h ah,fun q hq h=>absurd hq ah⟩) (.cons rfl (.cons rfl (.nil))) (.cons rfl (.cons rfl (.cons rfl (.cons rfl (.nil))))) rfl fun i j hx ih=>?_;have aX:=cL (g:=g);obtain ⟨hij,hjl,hlo,hhi⟩:=hx;refine S.seq<|S.seq<|S.region rfl<|O.q 2 rfl<|O.op (.p rfl) (.lss rfl rfl)<|O.nil ?_
 first|refine S.cc rfl (fun gx=>?_) (fun gx=>?_)|refine S.b7 rfl (fun gx=>?_) (fun gx=>?_)
 ·have hm:(i+j) / 2<v.length:=by omega
  have mL:kF v[(i+j) / 2].1 c<0↔v[(i+j) / 2].1<c:=by unfold kF;split<;>(try split)<;>omega
  refine S.skip<|S.block<|S.seq<|S.region rfl<|O.q 2 rfl<|O.op (.p rfl) (.add rfl rfl (IntWalk.i64_in _ ah))<|O.op (.p rfl) (.lU underlying3 underlying197 rfl)<|O.op (.p rfl) (.shr rfl rfl ah)<|O.op (.p rfl) (.lU underlying197 underlying3 rfl)<|O.slot 23 (v' :=.int .i64 (((i+j) / 2:Nat):Int)) rfl (by exact congrArg _ (Ih (s:=i+j) ah)) ?_;refine O.q 1 rfl<|O.nil<|S.seq<|S.region rfl<|O.q 3 rfl<|O.b8 (.p rfl) underlying428 oG rfl rfl (show _=((((i+j) / 2):Nat):Int) by omega) (by first|assumption|exact aj.mono hg zE|exact aj.left zE|exact aj.left (aj.mono hg zE)) (h:=fun T5 Nt DT Eb=>?_);obtain ⟨rfl,Y0,Y5⟩:=c5.open Eb;refine O.op (.p rfl) (.bz isAgg191 aa rfl DT) ?_;refine O.q 1 rfl<|O.aB (.p rfl) rfl aa rfl rfl (GC) ?_;rintro _ _ ⟨rfl,rfl⟩
  try simp only [an,aq,au]
  refine O.op (.p rfl) (.lss rfl rfl)<|O.nil ?_
  first|refine S.cc rfl (fun fM=>?_) (fun fM=>?_)|refine S.b7 rfl (fun fM=>?_) (fun fM=>?_)
  ·have hc:=mL.1 fM
   refine S.region rfl<|O.q 1 rfl<|O.op (.p rfl) (.add rfl rfl (IntWalk.i64_in _ ah))<|O.q 1 rfl<|O.nil (S.inBlock ?_);exact S.dz (ih ((i+j) / 2+1) (j) (by (refine ⟨by omega,by omega,fun q hq h=>?_,hhi⟩;by_cases e:q=(i+j) / 2;(subst e;exact hc);(have:=hlt q ((i+j) / 2) hq hm ah;omega))) ah)
  ·have hc:c≤v[(i+j) / 2].1:=by have:=mt mL.2 fM;omega
   refine S.region rfl<|O.q 2 rfl<|O.nil (S.inBlock ?_);exact S.dz (ih (i) ((i+j) / 2) (by (refine ⟨by omega,by omega,hlo,fun q hq h=>?_⟩;by_cases e:q=(i+j) / 2;(subst e;exact hc);(have:=hlt ((i+j) / 2) q hm hq ah;omega))) ah)
 ·clear ih
  have e:i=j:=by omega
  subst e
  by_cases hi:i<v.length
  ·
   have hc:=hhi i hi (Nat.le_refl _);have mL:kF v[i].1 c=0↔v[i].1=c:=by unfold kF;split<;>(try split)<;>omega
   refine S.exit rfl<|S.seq<|S.region rfl<|O.q 3 rfl<|O.op (.p rfl) (.lss rfl rfl)<|O.sT 38 rfl b5 ?_;refine O.q 4 rfl<|O.b8 (.g rfl rfl) underlying428 oG rfl rfl rfl (by first|assumption|exact aj.mono hg zE|exact aj.left zE|exact aj.left (aj.mono hg zE)) (h:=fun E8 Ck tL tO=>?_);obtain ⟨rfl,Y2,Y7⟩:=c5.open tO;refine O.op (.g rfl rfl) (.bz isAgg191 aa rfl tL) ?_;refine O.q 1 rfl<|O.aB (.g rfl rfl) rfl aa rfl rfl (GC) ?_;rintro _ _ ⟨rfl,rfl⟩
   try simp only [an,aq,au]
   refine O.op (.g rfl rfl) (.eql rfl rfl)<|O.q 3 rfl<|O.nil<|S.mW results394 rfl rfl fun w hw=>Holds.end_ hR hw ?_;refine ⟨_,⟨i,_,rfl,hjl,fun hb=>⟨hi,mL.1 (by simpa using hb)⟩,fun hb q hq e=>?_,rfl⟩,by repeat (first|exact aS|exact aU|(apply aT;focus (repeat (first|exact aR|apply zt)))|apply aV)⟩;have hne:¬ v[i].1=c:=fun e2=>by simp [mL.2 e2] at hb
   rcases Nat.lt_trichotomy q i with h|h|h
   ·have:=hlo q hq h;omega
   ·subst h;exact hne e
   ·have:=hlt i q hi hq h;omega
  ·
   refine S.exit rfl<|S.seq<|S.region rfl<|O.q 3 rfl<|O.op (.p rfl) (.lss rfl rfl)<|O.aN 38 rfl b5 ?_;refine O.q 12 rfl<|O.nil<|S.mW results394 rfl rfl fun w hw=>Holds.end_ hR hw ?_;exact pk ⟨i,false,rfl,hjl,fun h=>(by cases h),fun _ q hq e=>by have:=hlo q hq ah;omega,rfl⟩
theorem Mi {r:Fr} {va:Value} {v:List dn} (c:Int) (ha:aj c5 r va v) (hv:sR v) (hl:v.length≤1000000000000):ay prog 383 #[va,.int .i64 c] r []
  (aL fun u U=>∃ (k:Nat) (b:Bool),u=.tuple #[.int .i64 (k:Int),.bool b]∧k≤v.length∧(b=true→∃ h:k<v.length,v[k].1=c)∧(b=false→∀ i (hi:i<v.length),v[i].1≠c)∧U=[]):=by
 refine ay.of (n:=11) _ rfl func383 rfl rfl rfl fun g hg R hR=>?_;have ha:=ha.mono hg;refine S.seq<|S.region rfl<|O.q 2 rfl<|O.nil<|S.seq<|S.region rfl<|O.q 2 rfl<|O.aB (.p rfl) rfl aa rfl rfl (MD _ (by first|assumption|exact aj.mono hg zE|exact aj.left zE|exact aj.left (aj.mono hg zE)) zE bJ) ?_;rintro Lx _ ⟨SC,j7,rfl,PA,QR,Po,rfl⟩
 try simp only [an,aq,au]
 refine O.q 4 rfl<|O.nil<|S.mW results383 rfl rfl fun w hw=>Holds.end_ hR hw ?_;exact pk ⟨SC,j7,rfl,PA,QR,Po,rfl⟩
theorem NA {r:Fr} {va:Value} {v:List dn} {a b:Int} (d:dn) (h:d=(a,b,())) (ha:aj c5 r va v) (hv:sR v) (hl:v.length≤1000000000000):ay prog 357 #[va,.agg #[.int .i64 a,.int .i64 b]] r []
  (aL fun u U=>u=.bool (vt v d)∧U=[]):=by
 subst h;refine ay.of (n:=25) _ rfl func357 rfl rfl rfl fun g hg R hR=>?_;have ha:=ha.mono hg;obtain ⟨a1,c1,rfl⟩:=ha.shape;refine S.seq<|S.region rfl<|O.aM (.p rfl) (.box (cs:=[_,_]) rfl rfl) ?_;rintro _ _ ⟨b3,rfl,rfl⟩;refine O.q 1 rfl<|O.nil<|S.seq<|S.region rfl<|O.q 1 rfl<|O.op (.p rfl) (.aD s_ rfl)<|O.op (.p rfl) (.lo cv) ?_;refine O.aB (.p rfl) rfl aa rfl rfl (Mi _ (by first|assumption|exact aj.mono hg zE|exact aj.left zE|exact aj.left (aj.mono hg zE)) zE bJ) ?_;rintro v11 _ ⟨SA,Ml,rfl,Y8,QO,Pn,rfl⟩
 try simp only [an,aq,au]
 refine O.q 5 rfl<|O.nil (S.seq ?_)
 cases Ml with
 |true =>
  obtain ⟨hk,hkc⟩:=QO rfl;refine S.cW ai fun g hs hm h3=>?_;replace hg:=Fr.aH hg hs;replace hR:=bp hR hm
  try replace ha:=ha.mono hs
  clear hs hm;refine S.bB (L:=[0,1,2,3,4,5,6,7,8,9,10,11]) bA aa ?_;refine af.q 1 rfl<|af.sT 14 rfl (by first|decide|simp) ?_;refine af.q 3 rfl<|af.b8 (.g rfl rfl) underlying428 oG rfl rfl (show _=(((SA):Nat):Int) by omega) (by first|assumption|exact aj.mono hg zE|exact aj.left zE|exact aj.left (aj.mono hg zE)) (h:=fun AF y_ l_ me=>?_);obtain ⟨rfl,YY,Y3⟩:=c5.open me;refine .quiet (.g rfl rfl) rfl (fun _=>.fieldAddr wX rfl)<|.quiet (.g rfl rfl) rfl (fun _=>.loadAt cv rfl (l_.drop 1) rfl) ?_;refine .quiet (.g rfl rfl) rfl (fun _=>.fieldAddr wX rfl)<|.quiet (.g rfl rfl) rfl (fun _=>.loadAt cv rfl (h3.drop 1) rfl) ?_;refine .quiet (.g rfl rfl) rfl (fun _=>.geq rfl rfl)<|af.q 2 rfl<|aI.nil ?_;exact S.rt results357 rfl hR ⟨by rw [O2 hv hk hkc],rfl⟩
 |false =>
  refine S.cW ai fun g hs hm h3=>?_;replace hg:=Fr.aH hg hs;replace hR:=bp hR hm
  try replace ha:=ha.mono hs
  clear hs hm;refine S.bB (L:=[0,1,2,3,4,5,6,7,8,9,10,11]) bA aa ?_;refine af.q 1 rfl<|af.aN 14 rfl (by first|decide|simp) ?_;refine af.q 11 rfl<|aI.nil ?_;exact S.rt results357 rfl hR ⟨by rw [O3 (Pn rfl)],rfl⟩
theorem qo {r:Fr} {va:Value} {v:List dn} (ha:aj c5 r va v):ay prog 355 #[va] r [] (aL fun u U=>u=.bool (jZ v)∧U=[]):=by
 refine ay.of (n:=5) _ rfl func355 rfl rfl rfl fun g hg R hR=>?_;have ha:=ha.mono hg;refine S.seq<|S.region rfl<|O.q 1 rfl<|O.nil<|S.seq<|S.region rfl<|O.q 1 rfl<|O.aB (.p rfl) rfl aa rfl rfl (NL (by first|assumption|exact aj.mono hg zE|exact aj.left zE|exact aj.left (aj.mono hg zE))) ?_;rintro _ _ ⟨rfl,rfl⟩
 try simp only [an,aq,au]
 refine O.q 1 rfl<|O.nil ?_;exact S.rt results355 rfl hR ⟨rfl,rfl⟩
theorem FY {r:Fr} {va:Value} {v:List dn} {a b:Int} (d:dn) (h:d=(a,b,())) (ha:aj c5 r va v):ay prog 333 #[va,.agg #[.int .i64 a,.int .i64 b]] r [] (aL fun u U=>u=.bool (rS v d)∧U=[]):=by
 subst h;refine ay.of (n:=16) _ rfl func333 rfl rfl rfl fun g hg R hR=>?_;have ha:=ha.mono hg
 cases hv:jZ v with
 |false =>
  refine S.seq<|S.region rfl<|O.aM (.p rfl) (.box (cs:=[_,_]) rfl rfl) ?_;rintro _ _ ⟨b3,rfl,rfl⟩;refine O.q 1 rfl<|O.nil<|S.seq<|S.region rfl<|O.q 1 rfl<|O.aB (.p rfl) rfl aa rfl rfl (qo (by first|assumption|exact aj.mono hg zE|exact aj.left zE|exact aj.left (aj.mono hg zE))) ?_;rintro _ _ ⟨rfl,rfl⟩
  try simp only [an,aq,au]
  refine O.aN 6 rfl (by exact hv) ?_;refine O.q 10 rfl<|O.nil ?_;exact S.rt results333 rfl hR ⟨by simp [rS,hv],rfl⟩
 |true =>
  have hr:=(uw.1 hv).2;have hl:=yp hv
  cases hd:mI (a,b,()) with
  |false =>
   refine S.seq<|S.region rfl<|O.aM (.p rfl) (.box (cs:=[_,_]) rfl rfl) ?_;rintro _ _ ⟨b3,rfl,rfl⟩;refine O.q 1 rfl<|O.nil<|S.seq<|S.region rfl<|O.q 1 rfl<|O.aB (.p rfl) rfl aa rfl rfl (qo (by first|assumption|exact aj.mono hg zE|exact aj.left zE|exact aj.left (aj.mono hg zE))) ?_;rintro _ _ ⟨rfl,rfl⟩
   try simp only [an,aq,au]
   refine O.sT 6 rfl (by exact hv) ?_;refine O.q 1 rfl<|O.op (.g rfl rfl) (.ia (news:=[_,_]) isAgg191) ?_;refine O.aB (.g rfl rfl) rfl aa rfl rfl (yE _ rfl) ?_;rintro _ _ ⟨rfl,rfl⟩
   try simp only [an,aq,au]
   refine O.aN 9 rfl (by exact hd) ?_;refine O.q 7 rfl<|O.nil ?_;exact S.rt results333 rfl hR ⟨by simp [rS,hd],rfl⟩
  |true =>
   refine S.seq<|S.region rfl<|O.aM (.p rfl) (.box (cs:=[_,_]) rfl rfl) ?_;rintro _ _ ⟨b3,rfl,rfl⟩;refine O.q 1 rfl<|O.nil<|S.seq<|S.region rfl<|O.q 1 rfl<|O.aB (.p rfl) rfl aa rfl rfl (qo (by first|assumption|exact aj.mono hg zE|exact aj.left zE|exact aj.left (aj.mono hg zE))) ?_;rintro _ _ ⟨rfl,rfl⟩
   try simp only [an,aq,au]
   refine O.sT 6 rfl (by exact hv) ?_;refine O.q 1 rfl<|O.op (.g rfl rfl) (.ia (news:=[_,_]) isAgg191) ?_;refine O.aB (.g rfl rfl) rfl aa rfl rfl (yE _ rfl) ?_;rintro _ _ ⟨rfl,rfl⟩
   try simp only [an,aq,au]
   refine O.sT 9 rfl (by exact hd) ?_;refine O.q 3 rfl<|O.op (.g rfl rfl) (.ia (news:=[_,_]) isAgg191) ?_;refine O.aB (.g rfl rfl) rfl aa rfl rfl (NA _ rfl (by first|assumption|exact aj.mono hg zE|exact aj.left zE|exact aj.left (aj.mono hg zE)) zE bJ) ?_;rintro _ _ ⟨rfl,rfl⟩
   try simp only [an,aq,au]
   refine O.q 2 rfl<|O.nil ?_;exact S.rt results333 rfl hR ⟨by simp [rS,hv,hd],rfl⟩
theorem ux {r:Fr} {cs:List Value} {x:aP} (h:cq.rel r cs x):ay prog 334 #[.agg cs.toArray] r [] (aL fun v U=>v=.agg #[.int .i64 x.2.1,.int .i64 x.2.2.1]∧U=[]):=by
 obtain ⟨v3,v5,v6,rfl,k0,k1,k2,bg,fO,eG⟩:=cq.open h;refine ay.of (n:=10) _ rfl func334 rfl rfl rfl fun g hg R hR=>?_;refine S.seq<|S.region rfl<|O.aM (.p rfl) (.box (cs:=[_,_,_,_,_,_,_]) rfl rfl) ?_;rintro _ _ ⟨b1,rfl,rfl⟩;refine O.aM (.p rfl) (.alloc (cs:=[.int .i64 0,.int .i64 0]) zeroValue191 rfl) ?_;rintro _ _ ⟨b2,rfl,rfl⟩;refine O.nil<|S.seq<|S.region rfl<|O.op (.p rfl) (.aD fH rfl)<|O.op (.p rfl) (.aD vc rfl)<|O.op (.p rfl) (.lo cv) ?_;refine O.op (.p rfl) (.aD fH rfl)<|O.op (.p rfl) (.aD ve rfl)<|O.op (.p rfl) (.lo cv) ?_;refine O.op (.p rfl) (.build (cs:=[_,_]) underlying191 rfl rfl rfl rfl rfl)<|O.bu rfl (.cZ aa rfl rfl rfl rfl ai aW) ?_;refine O.nil<|S.vX results334 isAgg191 aa rfl ai fun w hw=>Holds.end_ hR hw ?_;exact pk ⟨rfl,rfl⟩
theorem sF {r:Fr} {cs:List Value} {x:aP} (h:cq.rel r cs x):ay prog 332 #[.agg cs.toArray] r [] (aL fun v U=>v=.bool (shaped x)∧U=[]):=by
 obtain ⟨v3,v5,v6,rfl,k0,k1,k2,bg,fO,eG⟩:=cq.open h;refine ay.of (n:=48) _ rfl func332 rfl rfl rfl fun g hg R hR=>?_;have h:=h.mono hg;have bg:=bg.mono hg;have fO:=fO.mono hg;have eG:=eG.mono hg;obtain ⟨a3,c3,rfl⟩:=bg.shape;obtain ⟨a5,dP,rfl⟩:=fO.shape;obtain ⟨a6,dF,rfl⟩:=eG.shape
 by_cases n1:x.1.length<1
 ·have e:shaped x=false:=by unfold shaped;rw [decide_eq_false (show ¬ 1≤x.1.length by omega)];rfl
  refine S.seq<|S.region rfl<|O.aM (.p rfl) (.box (cs:=[_,_,_,_,_,_,_]) rfl rfl) ?_;rintro _ _ ⟨b1,rfl,rfl⟩;refine O.q 1 rfl<|O.nil<|S.seq<|S.block<|S.seq<|S.seq<|S.region rfl<|O.op (.p rfl) (.aD fH rfl)<|O.op (.p rfl) (.aD e3 rfl)<|O.op (.p rfl) (.lo bL) ?_;refine O.op (.p rfl) (.c6 rfl underlying9 rfl)<|O.op (.p rfl) (.lss rfl rfl)<|O.sT 8 rfl b5 ?_;refine O.q 1 rfl<|O.nil<|S.bx rfl<|S.skip<|S.bx rfl<|S.seq<|S.region rfl<|O.q 1 rfl<|O.nil ?_;exact S.rt results332 rfl hR ⟨by rw [e],rfl⟩
 have e1:1≤x.1.length:=by omega
 by_cases n2:64<x.1.length
 ·have e:shaped x=false:=by unfold shaped;rw [decide_eq_false (show ¬ x.1.length≤64 by omega)];simp
  refine S.seq<|S.region rfl<|O.aM (.p rfl) (.box (cs:=[_,_,_,_,_,_,_]) rfl rfl) ?_;rintro _ _ ⟨b1,rfl,rfl⟩;refine O.q 1 rfl<|O.nil<|S.seq<|S.block<|S.seq<|S.seq<|S.region rfl<|O.op (.p rfl) (.aD fH rfl)<|O.op (.p rfl) (.aD e3 rfl)<|O.op (.p rfl) (.lo bL) ?_;refine O.op (.p rfl) (.c6 rfl underlying9 rfl)<|O.op (.p rfl) (.lss rfl rfl)<|O.aN 8 rfl b5 ?_;refine O.q 1 rfl<|O.nil<|S.aQ rfl<|S.seq<|S.region rfl<|O.op (.p rfl) (.aD fH rfl)<|O.op (.p rfl) (.aD e3 rfl)<|O.op (.p rfl) (.lo bL) ?_;refine O.op (.p rfl) (.c6 rfl underlying9 rfl)<|O.op (.p rfl) (.gtr rfl rfl)<|O.sT 13 rfl b5 ?_;refine O.q 1 rfl<|O.nil<|S.bx rfl<|S.skip<|S.bx rfl<|S.seq<|S.region rfl<|O.q 1 rfl<|O.nil ?_;exact S.rt results332 rfl hR ⟨by rw [e],rfl⟩
 have e2:x.1.length≤64:=by omega
 have Aa:jZ [iJ x]=mI (iJ x):=by
  cases hd:mI (iJ x) with
  |true=>rw [uw];exact ⟨fun d q=>by rw [List.mem_singleton.1 q];exact hd,List.pairwise_singleton ..⟩
  |false =>
   rw [Bool.eq_false_iff]
   intro q
   have:=(uw.1 q).1 _ (List.mem_singleton.2 rfl);rw [hd] at this;cases this
 cases bY:mI (iJ x) with
 |false =>
  have e:shaped x=false:=by unfold shaped;rw [bY];simp
  refine S.seq<|S.region rfl<|O.aM (.p rfl) (.box (cs:=[_,_,_,_,_,_,_]) rfl rfl) ?_;rintro _ _ ⟨b1,rfl,rfl⟩;refine O.q 1 rfl<|O.nil<|S.seq<|S.block<|S.seq<|S.seq<|S.region rfl<|O.op (.p rfl) (.aD fH rfl)<|O.op (.p rfl) (.aD e3 rfl)<|O.op (.p rfl) (.lo bL) ?_;refine O.op (.p rfl) (.c6 rfl underlying9 rfl)<|O.op (.p rfl) (.lss rfl rfl)<|O.aN 8 rfl b5 ?_;refine O.q 1 rfl<|O.nil<|S.aQ rfl<|S.seq<|S.region rfl<|O.op (.p rfl) (.aD fH rfl)<|O.op (.p rfl) (.aD e3 rfl)<|O.op (.p rfl) (.lo bL) ?_;refine O.op (.p rfl) (.c6 rfl underlying9 rfl)<|O.op (.p rfl) (.gtr rfl rfl)<|O.aN 13 rfl b5 ?_;refine O.q 1 rfl<|O.nil<|S.aQ rfl<|S.seq<|S.region rfl<|O.op (.p rfl) (.ia (news:=[_,_,_,_,_,_,_]) isAgg415) ?_;refine O.aB (.p rfl) rfl aa rfl rfl (ux (by first|assumption|exact ag.rel.mono zE hg)) ?_;rintro _ _ ⟨rfl,rfl⟩
  try simp only [an,aq,au]
  refine O.aM (.p rfl) (.ct (T:=c5) (ys:=[iJ x]) underlying100 rJ aC rfl rfl ⟨c5.mk k1 k2,trivial⟩ aC) ?_;rintro _ _ ⟨ei,ej,rfl,rfl⟩;refine O.fo ai fun g hs hm tt=>?_;replace hg:=Fr.aH hg hs;replace hR:=bp hR hm
  try replace h:=h.mono hs
  try replace bg:=bg.mono hs
  try replace fO:=fO.mono hs
  try replace eG:=eG.mono hs
  clear hs hm;refine O.aB (.p rfl) rfl aa rfl rfl (qo (by first|assumption|exact aj.mono hg zE|exact aj.left zE|exact aj.left (aj.mono hg zE))) ?_;rintro _ _ ⟨rfl,rfl⟩
  try simp only [an,aq,au]
  refine O.aN 17 rfl (by rw [Aa,bY]) ?_;refine O.op (.p rfl) (.not rfl)<|O.q 1 rfl<|O.nil<|S.bx rfl<|S.skip<|S.bx rfl<|S.seq<|S.region rfl<|O.q 1 rfl<|O.nil ?_;exact S.rt results332 rfl hR ⟨by rw [e],rfl⟩
 |true =>
  cases fm:jZ x.2.2.2.1 with
  |false =>
   have e:shaped x=false:=by unfold shaped;rw [fm];simp
   refine S.seq<|S.region rfl<|O.aM (.p rfl) (.box (cs:=[_,_,_,_,_,_,_]) rfl rfl) ?_;rintro _ _ ⟨b1,rfl,rfl⟩;refine O.q 1 rfl<|O.nil<|S.seq<|S.block<|S.seq<|S.seq<|S.region rfl<|O.op (.p rfl) (.aD fH rfl)<|O.op (.p rfl) (.aD e3 rfl)<|O.op (.p rfl) (.lo bL) ?_;refine O.op (.p rfl) (.c6 rfl underlying9 rfl)<|O.op (.p rfl) (.lss rfl rfl)<|O.aN 8 rfl b5 ?_;refine O.q 1 rfl<|O.nil<|S.aQ rfl<|S.seq<|S.region rfl<|O.op (.p rfl) (.aD fH rfl)<|O.op (.p rfl) (.aD e3 rfl)<|O.op (.p rfl) (.lo bL) ?_;refine O.op (.p rfl) (.c6 rfl underlying9 rfl)<|O.op (.p rfl) (.gtr rfl rfl)<|O.aN 13 rfl b5 ?_;refine O.q 1 rfl<|O.nil<|S.aQ rfl<|S.seq<|S.region rfl<|O.op (.p rfl) (.ia (news:=[_,_,_,_,_,_,_]) isAgg415) ?_;refine O.aB (.p rfl) rfl aa rfl rfl (ux (by first|assumption|exact ag.rel.mono zE hg)) ?_;rintro _ _ ⟨rfl,rfl⟩
   try simp only [an,aq,au]
   refine O.aM (.p rfl) (.ct (T:=c5) (ys:=[iJ x]) underlying100 rJ aC rfl rfl ⟨c5.mk k1 k2,trivial⟩ aC) ?_;rintro _ _ ⟨ei,ej,rfl,rfl⟩;refine O.fo ai fun g hs hm tt=>?_;replace hg:=Fr.aH hg hs;replace hR:=bp hR hm
   try replace h:=h.mono hs
   try replace bg:=bg.mono hs
   try replace fO:=fO.mono hs
   try replace eG:=eG.mono hs
   clear hs hm;refine O.aB (.p rfl) rfl aa rfl rfl (qo (by first|assumption|exact aj.mono hg zE|exact aj.left zE|exact aj.left (aj.mono hg zE))) ?_;rintro _ _ ⟨rfl,rfl⟩
   try simp only [an,aq,au]
   refine O.sT 17 rfl (by rw [Aa,bY]) ?_;refine O.op (.p rfl) (.not rfl)<|O.q 1 rfl<|O.nil<|S.aQ rfl<|S.seq<|S.region rfl<|O.op (.p rfl) (.aD fH rfl)<|O.op (.p rfl) (.aD fF rfl)<|O.op (.p rfl) (.lo eS) ?_;refine O.aB (.p rfl) rfl aa rfl rfl (qo (by first|assumption|exact aj.mono hg zE|exact aj.left zE|exact aj.left (aj.mono hg zE))) ?_;rintro _ _ ⟨rfl,rfl⟩
   try simp only [an,aq,au]
   refine O.aN 22 rfl (by exact fm) ?_;refine O.op (.p rfl) (.not rfl)<|O.q 1 rfl<|O.nil<|S.bx rfl<|S.skip<|S.bx rfl<|S.seq<|S.region rfl<|O.q 1 rfl<|O.nil ?_;exact S.rt results332 rfl hR ⟨by rw [e],rfl⟩
  |true =>
   cases nv:rS x.2.2.2.1 (iJ x) with
   |true =>
    have e:shaped x=false:=by unfold shaped;rw [nv];simp
    refine S.seq<|S.region rfl<|O.aM (.p rfl) (.box (cs:=[_,_,_,_,_,_,_]) rfl rfl) ?_;rintro _ _ ⟨b1,rfl,rfl⟩;refine O.q 1 rfl<|O.nil<|S.seq<|S.block<|S.seq<|S.seq<|S.region rfl<|O.op (.p rfl) (.aD fH rfl)<|O.op (.p rfl) (.aD e3 rfl)<|O.op (.p rfl) (.lo bL) ?_;refine O.op (.p rfl) (.c6 rfl underlying9 rfl)<|O.op (.p rfl) (.lss rfl rfl)<|O.aN 8 rfl b5 ?_;refine O.q 1 rfl<|O.nil<|S.aQ rfl<|S.seq<|S.region rfl<|O.op (.p rfl) (.aD fH rfl)<|O.op (.p rfl) (.aD e3 rfl)<|O.op (.p rfl) (.lo bL) ?_;refine O.op (.p rfl) (.c6 rfl underlying9 rfl)<|O.op (.p rfl) (.gtr rfl rfl)<|O.aN 13 rfl b5 ?_;refine O.q 1 rfl<|O.nil<|S.aQ rfl<|S.seq<|S.region rfl<|O.op (.p rfl) (.ia (news:=[_,_,_,_,_,_,_]) isAgg415) ?_;refine O.aB (.p rfl) rfl aa rfl rfl (ux (by first|assumption|exact ag.rel.mono zE hg)) ?_;rintro _ _ ⟨rfl,rfl⟩
    try simp only [an,aq,au]
    refine O.aM (.p rfl) (.ct (T:=c5) (ys:=[iJ x]) underlying100 rJ aC rfl rfl ⟨c5.mk k1 k2,trivial⟩ aC) ?_;rintro _ _ ⟨ei,ej,rfl,rfl⟩;refine O.fo ai fun g hs hm tt=>?_;replace hg:=Fr.aH hg hs;replace hR:=bp hR hm
    try replace h:=h.mono hs
    try replace bg:=bg.mono hs
    try replace fO:=fO.mono hs
    try replace eG:=eG.mono hs
    clear hs hm;refine O.aB (.p rfl) rfl aa rfl rfl (qo (by first|assumption|exact aj.mono hg zE|exact aj.left zE|exact aj.left (aj.mono hg zE))) ?_;rintro _ _ ⟨rfl,rfl⟩
    try simp only [an,aq,au]
    refine O.sT 17 rfl (by rw [Aa,bY]) ?_;refine O.op (.p rfl) (.not rfl)<|O.q 1 rfl<|O.nil<|S.aQ rfl<|S.seq<|S.region rfl<|O.op (.p rfl) (.aD fH rfl)<|O.op (.p rfl) (.aD fF rfl)<|O.op (.p rfl) (.lo eS) ?_;refine O.aB (.p rfl) rfl aa rfl rfl (qo (by first|assumption|exact aj.mono hg zE|exact aj.left zE|exact aj.left (aj.mono hg zE))) ?_;rintro _ _ ⟨rfl,rfl⟩
    try simp only [an,aq,au]
    refine O.sT 22 rfl (by exact fm) ?_;refine O.op (.p rfl) (.not rfl)<|O.q 1 rfl<|O.nil<|S.aQ rfl<|S.cW ai fun g hs hm e5=>?_;replace hg:=Fr.aH hg hs;replace hR:=bp hR hm
    try replace h:=h.mono hs
    try replace bg:=bg.mono hs
    try replace fO:=fO.mono hs
    try replace eG:=eG.mono hs
    try replace tt:=tt.mono hs
    clear hs hm;refine S.bB (L:=[0,1,2,3,4,5,6]) bA aa ?_;refine .quiet (.p rfl) rfl (fun _=>.fieldAddr fH rfl)<|.quiet (.p rfl) rfl (fun _=>.fieldAddr fF rfl)<|.quiet (.p rfl) rfl (fun _=>.loadAt eS rfl (e5.drop 3) rfl) ?_;refine .quiet (.p rfl) rfl (fun _=>.bz isAgg415 aa rfl e5) ?_;refine af.aB (.p rfl) aa rfl aa rfl rfl (ux (by first|assumption|exact ag.rel.mono zE hg)) ?_;rintro _ _ ⟨rfl,rfl⟩
    try simp only [an,aq,au]
    refine af.aB (.p rfl) aa rfl aa rfl rfl (FY (iJ x) rfl (by first|assumption|exact aj.mono hg zE|exact aj.left zE|exact aj.left (aj.mono hg zE))) ?_;rintro _ _ ⟨rfl,rfl⟩
    try simp only [an,aq,au]
    refine af.sT 29 rfl (by exact nv) ?_;refine af.q 1 rfl<|aI.nil<|S.bx rfl<|S.seq<|S.region rfl<|O.q 1 rfl<|O.nil ?_;exact S.rt results332 rfl hR ⟨by rw [e],rfl⟩
   |false =>
    have e:shaped x=(decide (x.2.2.2.2.2.1.length≤1024) && (!x.2.2.2.2.1 ||decide (x.2.2.2.2.2.1.length=0))):=by unfold shaped;rw [decide_eq_true e1,decide_eq_true e2,bY,fm,nv];simp
    rw [e] at hR;clear e;refine S.seq<|S.region rfl<|O.aM (.p rfl) (.box (cs:=[_,_,_,_,_,_,_]) rfl rfl) ?_;rintro _ _ ⟨b1,rfl,rfl⟩;refine O.q 1 rfl<|O.nil<|S.seq<|S.block<|S.seq<|S.seq<|S.region rfl<|O.op (.p rfl) (.aD fH rfl)<|O.op (.p rfl) (.aD e3 rfl)<|O.op (.p rfl) (.lo bL) ?_;refine O.op (.p rfl) (.c6 rfl underlying9 rfl)<|O.op (.p rfl) (.lss rfl rfl)<|O.aN 8 rfl b5 ?_;refine O.q 1 rfl<|O.nil<|S.aQ rfl<|S.seq<|S.region rfl<|O.op (.p rfl) (.aD fH rfl)<|O.op (.p rfl) (.aD e3 rfl)<|O.op (.p rfl) (.lo bL) ?_;refine O.op (.p rfl) (.c6 rfl underlying9 rfl)<|O.op (.p rfl) (.gtr rfl rfl)<|O.aN 13 rfl b5 ?_;refine O.q 1 rfl<|O.nil<|S.aQ rfl<|S.seq<|S.region rfl<|O.op (.p rfl) (.ia (news:=[_,_,_,_,_,_,_]) isAgg415) ?_;refine O.aB (.p rfl) rfl aa rfl rfl (ux (by first|assumption|exact ag.rel.mono zE hg)) ?_;rintro _ _ ⟨rfl,rfl⟩
    try simp only [an,aq,au]
    refine O.aM (.p rfl) (.ct (T:=c5) (ys:=[iJ x]) underlying100 rJ aC rfl rfl ⟨c5.mk k1 k2,trivial⟩ aC) ?_;rintro _ _ ⟨ei,ej,rfl,rfl⟩;refine O.fo ai fun g hs hm tt=>?_;replace hg:=Fr.aH hg hs;replace hR:=bp hR hm
    try replace h:=h.mono hs
    try replace bg:=bg.mono hs
    try replace fO:=fO.mono hs
    try replace eG:=eG.mono hs
    clear hs hm;refine O.aB (.p rfl) rfl aa rfl rfl (qo (by first|assumption|exact aj.mono hg zE|exact aj.left zE|exact aj.left (aj.mono hg zE))) ?_;rintro _ _ ⟨rfl,rfl⟩
    try simp only [an,aq,au]
    refine O.sT 17 rfl (by rw [Aa,bY]) ?_;refine O.op (.p rfl) (.not rfl)<|O.q 1 rfl<|O.nil<|S.aQ rfl<|S.seq<|S.region rfl<|O.op (.p rfl) (.aD fH rfl)<|O.op (.p rfl) (.aD fF rfl)<|O.op (.p rfl) (.lo eS) ?_;refine O.aB (.p rfl) rfl aa rfl rfl (qo (by first|assumption|exact aj.mono hg zE|exact aj.left zE|exact aj.left (aj.mono hg zE))) ?_;rintro _ _ ⟨rfl,rfl⟩
    try simp only [an,aq,au]
    refine O.sT 22 rfl (by exact fm) ?_;refine O.op (.p rfl) (.not rfl)<|O.q 1 rfl<|O.nil<|S.aQ rfl<|S.cW ai fun g hs hm e5=>?_;replace hg:=Fr.aH hg hs;replace hR:=bp hR hm
    try replace h:=h.mono hs
    try replace bg:=bg.mono hs
    try replace fO:=fO.mono hs
    try replace eG:=eG.mono hs
    try replace tt:=tt.mono hs
    clear hs hm;refine S.bB (L:=[0,1,2,3,4,5,6]) bA aa ?_;refine .quiet (.p rfl) rfl (fun _=>.fieldAddr fH rfl)<|.quiet (.p rfl) rfl (fun _=>.fieldAddr fF rfl)<|.quiet (.p rfl) rfl (fun _=>.loadAt eS rfl (e5.drop 3) rfl) ?_;refine .quiet (.p rfl) rfl (fun _=>.bz isAgg415 aa rfl e5) ?_;refine af.aB (.p rfl) aa rfl aa rfl rfl (ux (by first|assumption|exact ag.rel.mono zE hg)) ?_;rintro _ _ ⟨rfl,rfl⟩
    try simp only [an,aq,au]
    refine af.aB (.p rfl) aa rfl aa rfl rfl (FY (iJ x) rfl (by first|assumption|exact aj.mono hg zE|exact aj.left zE|exact aj.left (aj.mono hg zE))) ?_;rintro _ _ ⟨rfl,rfl⟩
    try simp only [an,aq,au]
    refine af.aN 29 rfl (by exact nv) ?_;refine af.q 1 rfl<|aI.nil<|S.aQ rfl<|S.skip (S.inBlock (S.seq ?_))
    by_cases n6:1024<x.2.2.2.2.2.1.length
    ·
     refine S.region rfl<|O.op (.p rfl) (.fieldAddr fH rfl)<|O.op (.p rfl) (.fieldAddr gl rfl)<|O.op (.p rfl) (.loadAt bc rfl (e5.drop 5) rfl) ?_;refine O.op (.p rfl) (.len rfl underlying24 rfl)<|O.op (.p rfl) (.leq rfl rfl)<|O.aN 34 rfl b5 ?_;refine O.q 14 rfl<|O.nil ?_;exact S.rt results332 rfl hR ⟨by rw [decide_eq_false (show ¬ x.2.2.2.2.2.1.length≤1024 by omega)];rfl,rfl⟩
    have zh:x.2.2.2.2.2.1.length≤1024:=by omega
    cases zi:x.2.2.2.2.1 with
    |false =>
     refine S.region rfl<|O.op (.p rfl) (.fieldAddr fH rfl)<|O.op (.p rfl) (.fieldAddr gl rfl)<|O.op (.p rfl) (.loadAt bc rfl (e5.drop 5) rfl) ?_;refine O.op (.p rfl) (.len rfl underlying24 rfl)<|O.op (.p rfl) (.leq rfl rfl)<|O.sT 34 rfl b5 ?_;refine O.q 1 rfl<|O.op (.g rfl rfl) (.fieldAddr fH rfl)<|O.op (.g rfl rfl) (.fieldAddr vf rfl)<|O.op (.g rfl rfl) (.loadAt ji rfl (e5.drop 4) rfl) ?_;refine O.slot 38 (v' :=.bool false) rfl (by rw [zi]) ?_;refine O.op (.g rfl rfl) ((by first|exact .lH rfl|exact .not rfl)) ?_;refine O.sT 39 rfl aK ?_;refine O.q 9 rfl<|O.nil ?_;exact S.rt results332 rfl hR ⟨by rw [decide_eq_true zh,zi];rfl,rfl⟩
    |true =>
     refine S.region rfl<|O.op (.p rfl) (.fieldAddr fH rfl)<|O.op (.p rfl) (.fieldAddr gl rfl)<|O.op (.p rfl) (.loadAt bc rfl (e5.drop 5) rfl) ?_;refine O.op (.p rfl) (.len rfl underlying24 rfl)<|O.op (.p rfl) (.leq rfl rfl)<|O.sT 34 rfl b5 ?_;refine O.q 1 rfl<|O.op (.g rfl rfl) (.fieldAddr fH rfl)<|O.op (.g rfl rfl) (.fieldAddr vf rfl)<|O.op (.g rfl rfl) (.loadAt ji rfl (e5.drop 4) rfl) ?_;refine O.slot 38 (v' :=.bool true) rfl (by rw [zi]) ?_;refine O.op (.g rfl rfl) ((by first|exact .lH rfl|exact .not rfl)) ?_;refine O.aN 39 rfl aK ?_;refine O.q 1 rfl<|O.op (.g rfl rfl) (.fieldAddr fH rfl)<|O.op (.g rfl rfl) (.fieldAddr gl rfl)<|O.op (.g rfl rfl) (.loadAt bc rfl (e5.drop 5) rfl) ?_;refine O.op (.g rfl rfl) (.len rfl underlying24 rfl)<|O.op (.g rfl rfl) (.eql rfl rfl)<|O.q 3 rfl<|O.nil ?_;exact S.rt results332 rfl hR ⟨by rw [decide_eq_true zh,zi];simp,rfl⟩
end Go.Proofs.YtojafegjlahajaaGreatDoor
