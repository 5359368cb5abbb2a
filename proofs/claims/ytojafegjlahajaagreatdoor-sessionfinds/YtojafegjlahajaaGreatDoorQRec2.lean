/- Texts of this proof. -/
import Derived.Test.YtojafegjlahajaaGreatDoorQFi
import Derived.Test.YtojafegjlahajaaGreatDoorQSpLaid
open Go Go.Sp Go.Proofs.Tryz
set_option maxRecDepth 100000
set_option maxHeartbeats 1000000
attribute [local irreducible] obj Own av
namespace Go.Proofs.YtojafegjlahajaaGreatDoor
theorem yV {r:Fr} {va je:Value} {xs ys:List UInt8} (ha:aj ag.u8 r va xs) (hb:aj ag.u8 r je ys) :
  ay prog 19 #[va,je] r [] (aL fun v U=>v=.bool (decide (xs=ys))∧U=[]):=by
 refine ay.of (n:=26) _ rfl func19 rfl rfl rfl fun g hg R hR=>?_;have ha:=ha.mono hg;have hb:=hb.mono hg;have l1:=ha.bound;have l2:=hb.bound;obtain ⟨a1,c1,rfl⟩:=ha.shape;obtain ⟨a2,c2,rfl⟩:=hb.shape;refine S.seq<|S.region rfl<|O.q 1 rfl<|O.nil<|S.seq<|S.seq<|S.region rfl<|O.q 1 rfl<|O.op (.p rfl) (.len rfl underlying24 rfl)<|O.q 1 rfl<|O.op (.p rfl) (.len rfl underlying24 rfl)<|O.op (.p rfl) (.neq rfl rfl)<|O.nil ?_
 first|refine S.cm rfl (fun h10=>?_) (fun h10=>?_)|refine S.b_ rfl (fun h10=>?_) (fun h10=>?_)
 ·refine S.seq<|S.region rfl<|O.q 1 rfl<|O.nil<|S.ret results19 rfl fun w hw=>hR _ _ w ?_ hw
  refine ⟨?_,rfl⟩
  congr 1
  symm
  rw [decide_eq_false_iff_not];rintro rfl;exact h10 rfl
 ·refine S.skip<|S.seq<|S.seq<|S.region rfl<|O.q 1 rfl<|O.nil (S.block ?_)
  have h10:xs.length=ys.length:=by omega
  refine S.eM (ι:=Nat) (fun i=>i≤xs.length∧xs.take i=ys.take i) (fun i=>[(5,.int .i64 (i:Int))]) [(0,_),(1,_)] (fun i=>[]) (fun i=>xs.length - i) (0) bL (.cons rfl (.nil)) (.cons rfl (.cons rfl (.nil))) rfl fun i hx ih=>?_;have bh:=cH (g:=g);obtain ⟨hi,he⟩:=hx;refine S.seq<|S.seq<|S.region rfl<|O.q 2 rfl<|O.op (.p rfl) (.len rfl underlying24 rfl)<|O.op (.p rfl) (.lss rfl rfl)<|O.nil ?_
  first|refine S.cm rfl (fun e_=>?_) (fun e_=>?_)|refine S.b_ rfl (fun e_=>?_) (fun e_=>?_)
  ·have hlt:i<xs.length:=by omega
   refine S.skip<|S.seq<|S.block<|S.seq<|S.bC (L:=[0,1,2,3,4,5,6,7,8]) bz aa<|af.q 2 rfl<|af.bR (.p rfl) underlying24 fO rfl rfl rfl (by first|assumption|exact aj.mono hg zE|exact aj.left zE|exact aj.left (aj.mono hg zE)) (h:=fun sx s_ j8 gp=>?_)
   cases gp
   refine .quiet (.p rfl) rfl (fun _=>.loadAt lq rfl j8 rfl) ?_;refine af.q 2 rfl<|af.bR (.p rfl) underlying24 fO rfl rfl rfl (by first|assumption|exact aj.mono hg zE|exact aj.left zE|exact aj.left (aj.mono hg zE)) (h:=fun vT u_ nM k3=>?_)
   cases k3
   refine .quiet (.p rfl) rfl (fun _=>.loadAt lq rfl nM rfl) ?_;refine .quiet (.p rfl) rfl (fun _=>.neq rfl rfl)<|aJ.nil ?_
   first|refine S.cm rfl (fun rS=>?_) (fun rS=>?_)|refine S.b_ rfl (fun rS=>?_) (fun rS=>?_)
   ·refine S.seq<|S.region rfl<|O.q 1 rfl<|O.nil<|S.ret results19 rfl fun w hw=>hR _ _ w ?_ hw
    refine ⟨?_,rfl⟩
    congr 1
    symm
    rw [decide_eq_false_iff_not];rintro rfl;exact rS rfl
   ·refine S.skip<|S.inBlock<|S.region rfl<|O.q 1 rfl<|O.op (.p rfl) (.add rfl rfl (IntWalk.i64_in _ ah))<|O.q 1 rfl<|O.nil ?_
    exact S.dD (ih (i+1) (by (refine ⟨hlt,?_⟩;rw [List.take_succ_eq_append_getElem hlt,List.take_succ_eq_append_getElem ah,he];congr 2;exact UInt8.toNat_inj.1 ah)) ah)
  ·refine S.exit rfl<|S.seq<|S.region rfl<|O.q 1 rfl<|O.nil<|S.ret results19 rfl fun w hw=>hR _ _ w ?_ hw
   refine ⟨?_,rfl⟩
   congr 1
   symm
   rw [decide_eq_true_eq];have:i=xs.length:=by omega
   subst this
   rwa [List.take_of_length_le (Nat.le_refl _),List.take_of_length_le ah] at he
theorem WT (n:Int) (i:Nat) (h:i<8):(List.replicate (8 - i) (0:UInt8)++(be n).drop (8 - i)).set (7 - i) (jH n i)=List.replicate (8 - (i+1)) 0++(be n).drop (8 - (i+1)):=by
 match i,h with
 |0,_|1,_|2,_|3,_|4,_|5,_|6,_|7,_=>rfl
theorem ki {r:Fr} (n:Int):ay prog 147 #[.int .i64 n] r [] (aL fun v U=>∃ a c,v=.slice a 8 c∧U=[av ag.u8 5 v (be n)]):=by
 refine ay.of (n:=23) _ rfl func147 rfl rfl rfl fun g hg R hR=>?_;refine S.seq<|S.region rfl<|O.q 1 rfl<|O.nil<|S.seq<|S.region rfl<|O.aN (.p rfl) (.Az (T:=ag.u8) (0:UInt8) (m:=8) underlying24 eT aB rfl rfl rfl rfl rfl aB aB) ?_;rintro _ _ ⟨a,c,rfl,rfl⟩;refine O.q 1 rfl<|O.nil<|S.seq<|S.seq<|S.region rfl<|O.q 1 rfl<|O.op (.p rfl) (.len rfl underlying24 rfl)<|O.q 1 rfl<|O.nil<|S.block<|S.eM (ι:=Nat) (fun i=>i≤8) (fun i=>[(8,.int .i64 (i:Int))]) [(0,_),(3,_),(7,_)] (fun i=>[av ag.u8 5 (.slice a 8 c) (List.replicate (8 - i) 0++(be n).drop (8 - i))]) (fun i=>8 - i) (0) bL (.cons rfl (.nil)) (.cons rfl (.cons rfl (.cons rfl (.nil)))) rfl fun i hx ih=>?_;have bh:=cH (g:=g);refine S.seq<|S.region rfl<|O.op (.p rfl) (.lss rfl rfl)<|O.nil (S.seq ?_)
 first|refine S.cm rfl (fun h9=>?_) (fun h9=>?_)|refine S.b_ rfl (fun h9=>?_) (fun h9=>?_)
 ·refine S.skip<|S.seq<|S.block<|S.seq<|S.region rfl<|O.q 2 rfl<|O.nil<|S.region rfl<|O.q 2 rfl<|O.op (.p rfl) (.sub rfl rfl (IntWalk.i64_in _ ah))<|O.q 1 rfl<|O.op (.p rfl) (.lU underlying3 underlying274 rfl)<|O.q 1 rfl<|O.op (.p rfl) (.mul rfl rfl (IntWalk.i64_in _ ah))<|O.op (.p rfl) (.shr rfl rfl ah)<|O.op (.p rfl) (.lU underlying274 underlying5 rfl)<|O.aN (.p rfl) (.ox (T:=ag.u8) underlying24 fO rfl rfl (show _=(((7 - i):Nat):Int) by omega) ai oL) ?_
  rintro _ _ ⟨aaY,rfl,QB,rfl⟩;refine O.bB rfl (.ru fO rfl QB rfl ai oL (show _=_ by simp only [Value.cells,bK];rw [Lw n i ah _ rfl]:ag.rel _ _ _ (jH n i))) ?_;refine O.nil<|S.inBlock<|S.region rfl<|O.op (.p rfl) (.add rfl rfl (IntWalk.i64_in _ ah))<|O.q 1 rfl<|O.nil ?_;rw [WT n i ah];exact S.dD (ih (i+1) ah ah)
 ·refine S.exit rfl<|S.seq<|S.region rfl<|O.q 2 rfl<|O.nil<|S.ret results147 rfl fun w hw=>hR _ _ w ?_ hw
  have:i=8:=by omega
  subst this;exact ⟨a,c,rfl,rfl⟩
theorem eG {r:Fr} {va:Value} {xs:List UInt8} (ha:aj ag.u8 r va xs) (hl:xs.length≤140737488355328) :
  ay prog 95 #[va] r [] (aL fun v U=>∃ a c,v=.slice a xs.length c∧U=[av ag.u8 5 v xs]):=by
 refine ay.of (n:=8) _ rfl func95 rfl rfl rfl fun g hg R hR=>?_;have ha:=ha.mono hg;obtain ⟨a1,c1,rfl⟩:=ha.shape
 cases a1 with
 |none =>
  refine S.seq<|S.region rfl<|O.q 1 rfl<|O.nil<|S.seq<|S.seq<|S.region rfl<|O.q 1 rfl<|O.op (.p rfl) (.nx underlying24 rfl rfl)<|O.nil<|S.bx rfl<|S.seq<|S.region rfl<|O.q 1 rfl<|O.nil ?_;obtain ⟨rfl,_,rfl⟩:=aj.ya aB ha;refine S.gd (T:=ag.u8) (e:=5) ?_;refine S.ret results95 rfl fun w hw=>hR _ _ w ?_ hw;exact ⟨none,0,rfl,rfl⟩
 |some a1 =>
  refine S.seq<|S.region rfl<|O.q 1 rfl<|O.nil<|S.seq<|S.seq<|S.region rfl<|O.q 1 rfl<|O.op (.p rfl) (.nx underlying24 rfl rfl)<|O.nil<|S.aQ rfl<|S.skip<|S.seq<|S.region rfl<|O.aN (.p rfl) (.cA (T:=ag.u8) (ys:=[]) underlying24 eT aB rfl rfl trivial aB) ?_;rintro _ _ ⟨a5,dS,rfl,rfl⟩;refine O.q 1 rfl<|O.aN (.p rfl) (.mF (T:=ag.u8) AV underlying24 eT aB rfl rfl ai (by first|assumption|exact aj.mono hg zE|exact aj.left zE|exact aj.left (aj.mono hg zE)) bD bD) ?_;rintro _ _ ⟨a7,ir,rfl,rfl⟩;refine O.q 1 rfl<|O.nil<|S.ret results95 rfl fun w hw=>hR _ _ w ?_ hw;exact ⟨a7,ir,by simp,by simp⟩
theorem OO {r:Fr} (m:Nat) (hm:m≤140737488355328):ay prog 289 #[.slice none 0 0,.int .i64 (m:Int)] r [] (aL fun v U=>∃ a c,v=.slice a 0 c∧U=[av ag.u8 5 v []]):=by
 refine ay.of (n:=27) _ rfl func289 rfl rfl rfl fun g hg R hR=>?_;refine S.seq<|S.region rfl<|O.q 1 rfl<|O.nil<|S.seq<|S.seq<|S.region rfl<|O.q 1 rfl<|O.op (.p rfl) (.lss rfl rfl)<|O.nil ?_
 first|refine S.cm rfl (fun h6=>?_) (fun h6=>?_)|refine S.b_ rfl (fun h6=>?_) (fun h6=>?_)
 ·exact absurd h6 ah
 ·refine S.skip<|S.seq<|S.seq<|S.region rfl<|O.q 2 rfl<|O.op (.p rfl) (.cap rfl underlying24 rfl)<|O.q 1 rfl<|O.op (.p rfl) (.len rfl underlying24 rfl)<|O.op (.p rfl) (.sub rfl rfl (IntWalk.i64_in _ ah))<|O.op (.p rfl) (.sub rfl rfl (IntWalk.i64_in _ ah))<|O.q 1 rfl<|O.nil<|S.seq<|S.region rfl<|O.q 1 rfl<|O.op (.p rfl) (.gtr rfl rfl)<|O.nil ?_
  first|refine S.cm rfl (fun fH=>?_) (fun fH=>?_)|refine S.b_ rfl (fun fH=>?_) (fun fH=>?_)
  ·refine S.region rfl<|O.q 2 rfl<|O.op (.p rfl) (.cap rfl underlying24 rfl)<|O.op (.p rfl) (.W5 underlying24 fO rfl rfl rfl)<|O.q 1 rfl<|O.aN (.p rfl) (.ME (T:=ag.u8) (a:=0) (m:=m) underlying24 underlying3 eT aB rfl rfl rfl ah ah ah ah) ?_
   rintro _ _ ⟨a22,ee,rfl,rfl⟩;refine O.q 1 rfl<|O.op (.p rfl) (.len rfl underlying24 rfl)<|O.aN (.p rfl) (.NY (T:=ag.u8) (m:=0) underlying24 fO rfl rfl rfl ai ah) ?_;rintro _ _ ⟨a25,qx,rfl,rfl⟩;refine O.q 1 rfl<|O.nil<|S.seq<|S.region rfl<|O.q 2 rfl<|O.nil<|S.ret results289 rfl fun w hw=>hR _ _ w ?_ hw;exact ⟨a25,qx,rfl,by simp⟩
  ·have hm0:m=0:=by omega
   subst hm0;refine S.gd (T:=ag.u8) (e:=5) ?_;refine S.skip<|S.seq<|S.region rfl<|O.q 2 rfl<|O.nil<|S.ret results289 rfl fun w hw=>hR _ _ w ?_ hw;exact ⟨none,0,rfl,rfl⟩
theorem Ic (xss:List (List UInt8)) (i:Nat) (h:i<xss.length):(xss.take (i+1)).flatten=(xss.take i).flatten++xss[i]:=by
 rw [List.take_succ_eq_append_getElem h,List.flatten_append,List.flatten_singleton]
theorem Ib (xss:List (List UInt8)) (i:Nat):(xss.take i).flatten.length≤xss.flatten.length:=by
 have:xss.flatten=(xss.take i).flatten++(xss.drop i).flatten:=by rw [← List.flatten_append,List.take_append_drop]
 rw [this,List.length_append];omega
theorem NC {r:Fr} {va:Value} {xss:List (List UInt8)} (ha:aj (ag.slice ag.u8) r va xss) (hl:xss.flatten.length≤140737488355328) :
  ay prog 216 #[va] r [] (aL fun v U=>∃ a c,v=.slice a xss.flatten.length c∧U=[av ag.u8 5 v xss.flatten]):=by
 refine ay.of (n:=36) _ rfl func216 rfl rfl rfl fun g hg R hR=>?_;have ha:=ha.mono hg;have hbd:=ha.bound;obtain ⟨a1,c1,rfl⟩:=ha.shape;refine S.seq<|S.region rfl<|O.q 1 rfl<|O.nil<|S.seq<|S.region rfl<|O.q 1 rfl<|O.nil<|S.seq<|S.seq<|S.region rfl<|O.q 1 rfl<|O.op (.p rfl) (.len rfl underlying109 rfl)<|O.q 1 rfl<|O.nil<|S.block<|S.jO (ι:=Nat) (dJ:=Nat) (fun i s=>i≤xss.length∧s=(xss.take i).flatten.length) (fun i s=>[(11,.int .i64 (i:Int)),(3,.int .i64 (s:Int))]) [(0,_),(9,_),(10,_)] (fun i s=>[]) (fun i s=>xss.length - i) (0) (0) bL (.cons rfl (.cons rfl (.nil))) (.cons rfl (.cons rfl (.cons rfl (.nil)))) rfl fun i s hx ih=>?_;have bh:=cH (g:=g);obtain ⟨hx1,hs⟩:=hx;refine S.seq<|S.region rfl<|O.op (.p rfl) (.lss rfl rfl)<|O.nil (S.seq ?_)
 first|refine S.cm rfl (fun h12=>?_) (fun h12=>?_)|refine S.b_ rfl (fun h12=>?_) (fun h12=>?_)
 ·have hi:i<xss.length:=by omega
  have h1:=Ic xss i hi;have h2:=Ib xss (i+1);have h3:(xss.take (i+1)).flatten.length=(xss.take i).flatten.length+xss[i].length:=by rw [h1,List.length_append]
  refine S.skip<|S.seq<|S.block<|S.seq<|S.region rfl<|O.bR (.p rfl) underlying109 uA rfl rfl rfl (by first|assumption|exact aj.mono hg zE|exact aj.left zE|exact aj.left (aj.mono hg zE)) (h:=fun KD HL xA xG=>?_);obtain ⟨abA,rfl,O2⟩:=xG;obtain ⟨iM,iQ,rfl⟩:=O2.shape;refine O.op (.p rfl) (.loadAt bl rfl xA rfl) ?_;refine O.q 1 rfl<|O.nil<|S.seq<|S.region rfl<|O.q 2 rfl<|O.op (.p rfl) (.len rfl underlying24 rfl)<|O.op (.p rfl) (.add rfl rfl (IntWalk.i64_in _ ah))<|O.q 1 rfl<|O.nil<|S.seq<|S.region rfl<|O.q 1 rfl<|O.op (.p rfl) (.lss rfl rfl)<|O.nil ?_
  first|refine S.cm rfl (fun og=>?_) (fun og=>?_)|refine S.b_ rfl (fun og=>?_) (fun og=>?_)
  ·exact absurd og ah
  ·refine S.skip<|S.inBlock<|S.region rfl<|O.op (.p rfl) (.add rfl rfl (IntWalk.i64_in _ ah))<|O.q 1 rfl<|O.nil ?_
   exact S.dD (ih (i+1) (s+xss[i].length) ah ah)
 ·have hi:i=xss.length:=by omega
  subst hi;rw [List.take_length] at hs;subst hs;refine S.exit rfl<|S.seq<|S.region rfl<|O.q 1 rfl<|O.aC (.p rfl) rfl aa rfl rfl (OO xss.flatten.length ah) ?_;rintro _ _ ⟨a24,k9,rfl,rfl⟩
  try simp only [an,aq,au]
  refine O.q 1 rfl<|O.nil<|S.seq<|S.seq<|S.region rfl<|O.q 1 rfl<|O.op (.p rfl) (.len rfl underlying109 rfl)<|O.q 1 rfl<|O.nil<|S.block<|S.Ay (ι:=Nat) (dJ:=Option Addr) (jC:=Nat) (dF:=Nat) (fun i a6 m6 dH=>i≤xss.length∧m6=(xss.take i).flatten.length) (fun i a6 m6 dH=>[(27,.int .i64 (i:Int)),(6,.slice a6 m6 dH)]) [(25,_),(26,_)] (fun i a6 m6 dH=>[av ag.u8 5 (.slice a6 m6 dH) (xss.take i).flatten]) (fun i a6 m6 dH=>xss.length - i) (0) (a24) (0) (k9) bL (.cons rfl (.cons rfl (.nil))) (.cons rfl (.cons rfl (.nil))) rfl fun i a6 m6 dH hx ih=>?_;have hm2:=cH (g:=g);obtain ⟨hx1,hs⟩:=hx;refine S.seq<|S.region rfl<|O.op (.p rfl) (.lss rfl rfl)<|O.nil (S.seq ?_)
  first|refine S.cm rfl (fun tt=>?_) (fun tt=>?_)|refine S.b_ rfl (fun tt=>?_) (fun tt=>?_)
  ·have hi:i<xss.length:=by omega
   have h1:=Ic xss i hi;have h2:=Ib xss (i+1);have h3:(xss.take (i+1)).flatten.length=(xss.take i).flatten.length+xss[i].length:=by rw [h1,List.length_append]
   refine S.skip<|S.seq<|S.block<|S.seq<|S.region rfl<|O.bR (.p rfl) underlying109 uA rfl rfl rfl (by first|assumption|exact aj.mono hg zE|exact aj.left zE|exact aj.left (aj.mono hg zE)) (h:=fun UG NR xB Ey=>?_);obtain ⟨v29,rfl,jK⟩:=Ey;obtain ⟨a29,y_,rfl⟩:=jK.shape;refine O.op (.p rfl) (.loadAt bl rfl xB rfl) ?_;refine O.q 1 rfl<|O.nil<|S.region rfl<|O.q 2 rfl<|O.aN (.p rfl) (.mF (T:=ag.u8) AV underlying24 eT aB rfl rfl ai (by first|assumption|exact aj.mono hg zE|exact aj.left zE|exact aj.left (aj.mono hg zE)) bD bD) ?_;rintro _ _ ⟨a33,M9,rfl,rfl⟩;refine O.q 1 rfl<|O.nil<|S.inBlock<|S.region rfl<|O.op (.p rfl) (.add rfl rfl (IntWalk.i64_in _ ah))<|O.q 1 rfl<|O.nil ?_;rw [← h1];exact S.dD (ih (i+1) (a33) ((xss.take i).flatten.length+xss[i].length) (M9) ah ah)
  ·have hi:i=xss.length:=by omega
   subst hi;rw [List.take_length] at hs;subst hs;refine S.exit rfl<|S.seq<|S.region rfl<|O.q 2 rfl<|O.nil<|S.ret results216 rfl fun w hw=>hR _ _ w ?_ hw;exact ⟨a6,dH,rfl,by rw [List.take_length]⟩
theorem Bs {r:Fr} {va:Value} {xss:List (List UInt8)} (ha:aj (ag.slice ag.u8) r va xss) (hl:xss.flatten.length≤140737488355328) :
  ay prog 134 #[va] r [] (aL fun v U=>∃ a c,v=.slice a xss.flatten.length c∧U=[av ag.u8 5 v xss.flatten]):=by
 refine ay.of (n:=5) _ rfl func134 rfl rfl rfl fun g hg R hR=>?_;have ha:=ha.mono hg;obtain ⟨a1,c1,rfl⟩:=ha.shape;refine S.seq<|S.region rfl<|O.q 1 rfl<|O.nil<|S.seq<|S.region rfl<|O.q 1 rfl<|O.aC (.p rfl) rfl aa rfl rfl (NC (by first|assumption|exact aj.mono hg zE|exact aj.left zE|exact aj.left (aj.mono hg zE)) bD) ?_;rintro _ _ ⟨a4,gO,rfl,rfl⟩
 try simp only [an,aq,au]
 refine O.q 1 rfl<|O.nil<|S.ret results134 rfl fun w hw=>hR _ _ w ?_ hw;exact ⟨a4,gO,rfl,rfl⟩
theorem v_ {r:Fr} {va:Value} {xs:List UInt8} (ha:aj ag.u8 r va xs) (hl:xs.length≤100000000000000) :
  ay prog 80 #[va] r [] (aL fun v U=>∃ a c,v=.slice a (bytesOf xs).length c∧U=[av ag.u8 5 v (bytesOf xs)]):=by
 refine ay.of (n:=9) _ rfl func80 rfl rfl rfl fun g hg R hR=>?_;have ha:=ha.mono hg;obtain ⟨a1,c1,rfl⟩:=ha.shape;refine S.seq<|S.region rfl<|O.q 1 rfl<|O.nil<|S.seq<|S.region rfl<|O.q 1 rfl<|O.op (.p rfl) (.len rfl underlying24 rfl)<|O.aC (.p rfl) rfl aa rfl rfl (ki _) ?_;rintro _ _ ⟨a5,dS,rfl,rfl⟩
 try simp only [an,aq,au]
 refine O.q 1 rfl<|O.aN (.p rfl) (.cA (T:=ag.val) (ys:=[_,_]) underlying109 iu aB rfl rfl ⟨⟨rfl,rfl⟩,⟨rfl,rfl⟩,trivial⟩ aB) ?_;rintro _ _ ⟨a7,ir,rfl,rfl⟩;refine O.c4 (.p rfl) rfl aa rfl rfl (bs:=[av ag.val 24 (.slice a7 2 ir) [.slice a5 8 dS,.slice a1 xs.length c1],av ag.u8 5 (.slice a5 8 dS) (be xs.length)]) aW (fun m hm hd=>Bs (xss:=[be xs.length,xs]) ((hm.arr.right hd).rows ⟨hm.tail.arr.right hd,ha.left,trivial⟩) (by simp [y5];omega)) ?_;rintro _ _ ⟨a8,ob,rfl,rfl⟩
 try simp only [an,aq,au]
 refine O.q 1 rfl<|O.nil<|S.ret results80 rfl fun w hw=>hR _ _ w ?_ hw.fst;exact ⟨a8,ob,by simp [bytesOf],by simp [bytesOf]⟩
theorem Ye {r:Fr} {va:Value} {xs:List UInt8} (ha:aj ag.u8 r va xs) (hl:xs.length≤140737488355328) :
  ay prog 343 #[va] r [] (aL fun v U=>∃ b a c,v=.pointer (some ⟨b,0,none⟩)∧U=[obj b 441 [.slice a xs.length c,.bool true,.bool false],av ag.u8 5 (.slice a xs.length c) xs]):=by
 refine ay.of (n:=8) _ rfl func343 rfl rfl rfl fun g hg R hR=>?_;have ha:=ha.mono hg;obtain ⟨a1,c1,rfl⟩:=ha.shape;refine S.seq<|S.region rfl<|O.q 1 rfl<|O.nil<|S.seq<|S.region rfl<|O.q 1 rfl<|O.aC (.p rfl) rfl aa rfl rfl (eG (by first|assumption|exact aj.mono hg zE|exact aj.left zE|exact aj.left (aj.mono hg zE)) bD) ?_;rintro _ _ ⟨a4,gO,rfl,rfl⟩
 try simp only [an,aq,au]
 refine O.op (.p rfl) (.build (cs:=[_]) underlying439 rfl rfl rfl rfl rfl)<|O.op (.p rfl) (.build (cs:=[_,_,_]) underlying441 rfl rfl rfl rfl rfl)<|O.aN (.p rfl) (.box (cs:=[_,_,_]) rfl rfl) ?_;rintro _ _ ⟨oQ,rfl,rfl⟩;refine O.q 1 rfl<|O.nil<|S.ret results343 rfl fun w hw=>hR _ _ w ?_ hw.OG;exact ⟨oQ,a4,gO,rfl,rfl⟩
theorem AY {r:Fr} {b:Nat} {v:Value} {made bad:Bool}:ay prog 377 #[.pointer (some ⟨b,0,none⟩)] r [obj b 441 [v,.bool made,.bool bad]] (aL fun u U=>u=.bool (made && !bad)∧U=[obj b 441 [v,.bool made,.bool bad]]):=by
 refine ay.of (n:=18) _ rfl func377 rfl rfl rfl fun g hg R hR=>?_;refine S.seq<|S.region rfl<|O.q 1 rfl<|O.nil<|S.seq<|S.region rfl<|O.q 1 rfl<|O.op (.p rfl) (.x_ underlying423 rfl rfl)<|O.q 2 rfl<|O.op (.g rfl rfl) (.nilCheck rfl)<|O.op (.g rfl rfl) (.aH OA rfl)<|O.op (.g rfl rfl) (.lo iv) ?_;refine O.q 2 rfl ?_
 first|refine O.dK 11 rfl (fun h11=>?_) (fun h11=>?_)|refine O.dA 11 rfl (fun h11=>?_) (fun h11=>?_)
 ·subst h11
  refine O.q 1 rfl<|O.op (.g rfl rfl) (.nilCheck rfl)<|O.op (.g rfl rfl) (.aH zF rfl)<|O.op (.g rfl rfl) (.lo iv) ?_;refine O.op (.g rfl rfl) ((by first|exact .mg rfl|exact .not rfl)) ?_;refine O.q 2 rfl<|O.nil<|S.ret results377 rfl fun w hw=>hR _ _ w ?_ hw;exact ⟨rfl,rfl⟩
 ·subst h11
  refine O.q 7 rfl<|O.nil<|S.ret results377 rfl fun w hw=>hR _ _ w ?_ hw;exact ⟨rfl,rfl⟩
theorem Vc {r:Fr} {b:Nat} {v:Value} {rest:List UInt8} {made bad:Bool} (ha:aj ag.u8 r v rest):ay prog 348 #[.pointer (some ⟨b,0,none⟩)] r [obj b 441 [v,.bool made,.bool bad]] (aL fun u U=>u=.bool (decide ((made && !bad)=true∧rest=[]))∧U=[obj b 441 [v,.bool made,.bool bad]]):=by
 refine ay.of (n:=14) _ rfl func348 rfl rfl rfl fun g hg R hR=>?_;obtain ⟨a1,c1,rfl⟩:=ha.shape;refine S.seq<|S.region rfl<|O.q 1 rfl<|O.nil<|S.seq<|S.region rfl<|O.q 1 rfl<|O.bM (.p rfl) rfl aa rfl rfl ai AY ?_;rintro _ _ ⟨rfl,rfl⟩
 try simp only [an,aq,au]
 refine O.q 1 rfl ?_
 first|refine O.dK 5 rfl (fun h5=>?_) (fun h5=>?_)|refine O.dA 5 rfl (fun h5=>?_) (fun h5=>?_)
 ·refine O.q 1 rfl<|O.op (.g rfl rfl) (.nilCheck rfl)<|O.op (.g rfl rfl) (.aH vi rfl)<|O.op (.g rfl rfl) (.aH wX rfl)<|O.op (.g rfl rfl) (.lo bl) ?_
  refine O.op (.g rfl rfl) (.len rfl underlying24 rfl)<|O.op (.g rfl rfl) (.eql rfl rfl)<|O.q 2 rfl<|O.nil<|S.ret results348 rfl fun w hw=>hR _ _ w ?_ hw;refine ⟨?_,rfl⟩
  simp [h5]
 ·refine O.q 9 rfl<|O.nil<|S.ret results348 rfl fun w hw=>hR _ _ w ?_ hw
  refine ⟨?_,rfl⟩
  simp [h5]
def missing:List PanicEntry:=[{ v:=.iface 459 (.agg #[]),recovered:=false }]
theorem AE {r:Fr} (b:Bool):ay prog 391 #[.bool b] r [] (eN (fun v U=>b=true∧v=.tuple #[]∧U=[]) (fun ch U=>b=false∧ch=missing∧U=[])):=by
 refine ay.of (n:=6) _ rfl func391 rfl rfl rfl fun g hg R hR=>?_;refine S.seq<|S.region rfl<|O.q 1 rfl<|O.op (.p rfl) ((by first|exact .mg rfl|exact .not rfl)) ?_;refine O.nil ?_
 first|refine S.cm rfl (fun h3=>?_) (fun h3=>?_)|refine S.b_ rfl (fun h3=>?_) (fun h3=>?_)
 ·refine S.region rfl<|O.op (.p rfl) (.build (cs:=[]) underlying459 rfl rfl rfl rfl rfl)<|O.op (.p rfl) (.J7 underlying459 rfl)<|O.panic rfl rfl (fun w hw=>?_)
  exact hR _ [] w ⟨by simpa using h3,rfl,rfl⟩ hw
 ·refine S.skip<|S.ez results391 fun w hw=>hR _ _ w ?_ hw
  exact ⟨by simpa using h3,rfl,rfl⟩
theorem F9 {r:Fr} {b T:Nat} {v:Value} {cs:List Value} {rest:List UInt8} (n:Int) (ha:aj ag.u8 r v rest) :
  ay prog 372 #[.pointer (some ⟨b,0,none⟩),.int .i64 n] r [obj b T (v::cs)]
   (eN (fun u U=>(0≤n∧n≤rest.length)∧∃ a c v',u=.slice a (rest.take n.toNat).length c∧aj ag.u8 r (.slice a (rest.take n.toNat).length c) (rest.take n.toNat)∧aj ag.u8 r v' (rest.drop n.toNat)∧U=[obj b T (v' ::cs)]) (fun ch U=>¬(0≤n∧n≤rest.length)∧ch=missing∧U=[obj b T (v::cs)])):=by
 refine ay.of (n:=34) _ rfl func372 rfl rfl rfl fun g hg R hR=>?_;have hbd:=ha.bound;obtain ⟨a1,c1,rfl⟩:=ha.shape;refine S.seq<|S.region rfl<|O.q 1 rfl<|O.nil<|S.seq<|S.region rfl<|O.q 1 rfl<|O.op (.p rfl) (.geq rfl rfl)<|O.q 1 rfl ?_
 first|refine O.dK 8 rfl (fun h8=>?_) (fun h8=>?_)|refine O.dA 8 rfl (fun h8=>?_) (fun h8=>?_)
 ·refine O.q 2 rfl<|O.op (.g rfl rfl) (.nilCheck rfl)<|O.op (.g rfl rfl) (.aH wX rfl)<|O.op (.g rfl rfl) (.lo bl) ?_
  refine O.op (.g rfl rfl) (.len rfl underlying24 rfl)<|O.op (.g rfl rfl) (.leq rfl rfl)<|O.q 1 rfl<|O.kQ (.p rfl) rfl aa rfl rfl (AE _) (fun ch ax w hX hW=>by (obtain ⟨hb,rfl,rfl⟩:=hX;exact hR _ _ w ⟨by simp at hb;omega,rfl,rfl⟩ hW)) ?_;rintro _ _ ⟨DI,rfl,rfl⟩
  try simp only [an,aq,au]
  have hb:0≤n∧n≤rest.length:=by simp at DI;omega
  refine O.nil<|S.seq<|S.region rfl<|O.q 1 rfl<|O.op (.p rfl) (.nilCheck rfl)<|O.op (.p rfl) (.aH wX rfl)<|O.op (.p rfl) (.lo bl) ?_;refine O.q 1 rfl<|O.sliceTo (b:=n.toNat) (.p rfl) underlying24 fO rfl rfl zE bD bD (fun abq IB=>?_);obtain ⟨a23,Cc,rfl⟩:=IB.shape;refine O.q 1 rfl<|O.nil<|S.seq<|S.region rfl<|O.q 2 rfl<|O.op (.p rfl) (.nilCheck rfl)<|O.op (.p rfl) (.aH wX rfl)<|O.op (.p rfl) (.lo bl) ?_;refine O.q 1 rfl<|O.sliceFrom (a:=n.toNat) (.p rfl) underlying24 fO rfl rfl zE bD bD (fun abt IC=>?_);obtain ⟨BZ,Cd,rfl⟩:=IC.shape;refine O.op (.p rfl) (.nilCheck rfl)<|O.op (.p rfl) (.aH wX rfl)<|O.bB rfl (.bp bl rfl rfl bt ai aX) ?_;refine O.nil<|S.seq<|S.region rfl<|O.q 2 rfl<|O.nil<|S.ret results372 rfl fun w hw=>hR _ _ w ?_ hw;exact ⟨hb,_,_,_,rfl,IB,IC,rfl⟩
 ·refine O.q 8 rfl<|O.kQ (.p rfl) rfl aa rfl rfl (AE _) (fun ch ax w hX hW=>by (obtain ⟨hb,rfl,rfl⟩:=hX;exact hR _ _ w ⟨by omega,rfl,rfl⟩ hW)) ?_
  rintro _ _ ⟨DI,rfl,rfl⟩
  try simp only [an,aq,au]
  exact absurd DI bL
theorem Uj {α:Type} {rest:List α} (h:(0:Int)≤1∧(1:Int)≤rest.length):∃ x xs,rest=x::xs:=by
 cases rest with
 |nil=>simp at h
 |cons x xs=>exact ⟨x,xs,rfl⟩
theorem T9 {α:Type} {rest:List α} (h:¬((0:Int)≤1∧(1:Int)≤rest.length)):rest=[]:=by
 cases rest with
 |nil=>rfl
 |cons x xs=>simp at h;omega
theorem Ui {r:Fr} {b T:Nat} {v:Value} {cs:List Value} {rest:List UInt8} (ha:aj ag.u8 r v rest) :
  ay prog 369 #[.pointer (some ⟨b,0,none⟩)] r [obj b T (v::cs)]
   (eN (fun u U=>∃ x xs v',rest=x::xs∧u=bK x∧aj ag.u8 r v' xs∧U=[obj b T (v' ::cs)]) (fun ch U=>rest=[]∧ch=missing∧U=[obj b T (v::cs)])):=by
 refine ay.of (n:=7) _ rfl func369 rfl rfl rfl fun g hg R hR=>?_;refine S.seq<|S.region rfl<|O.q 1 rfl<|O.nil<|S.seq<|S.region rfl<|O.q 1 rfl<|O.qz (.p rfl) rfl aa rfl rfl ai ((F9 1 ha).sub hg) (fun ch ax w hX hW=>by (obtain ⟨hb,rfl,rfl⟩:=hX;exact hR _ _ w ⟨T9 hb,rfl,rfl⟩ hW)) ?_;rintro v4 _ ⟨hb4,a4,gO,v4,rfl,Zw,Pb,rfl⟩
 try simp only [an,aq,au]
 obtain ⟨x,xs,rfl⟩:∃ x xs,rest=x::xs:=Uj hb4;refine O.bR (.p rfl) underlying24 fO rfl rfl (show _=((0:Nat):Int) from rfl) (by first|assumption|exact aj.mono hg zE|exact aj.left zE|exact aj.left (aj.mono hg zE)) (h:=fun aa5 Y3 QH Q8=>?_)
 cases Q8
 refine O.op (.p rfl) (.loadAt lq rfl QH rfl) ?_;refine O.q 1 rfl<|O.nil<|S.ret results369 rfl fun w hw=>hR _ _ w ?_ hw;exact ⟨x,xs,_,rfl,rfl,Pb,rfl⟩
theorem Kt {r:Fr} {b T:Nat} {v:Value} {cs:List Value} {rest:List UInt8} (ha:aj ag.u8 r v rest) :
  ay prog 375 #[.pointer (some ⟨b,0,none⟩)] r [obj b T (v::cs)]
   (eN (fun u U=>8≤rest.length∧∃ v',u=.int .i64 (eX rest)∧aj ag.u8 r v' (rest.drop 8)∧U=[obj b T (v' ::cs)]) (fun ch U=>rest.length<8∧ch=missing∧U=[obj b T (v::cs)])):=by
 refine ay.of (n:=21) _ rfl func375 rfl rfl rfl fun g hg R hR=>?_;refine S.seq<|S.region rfl<|O.q 1 rfl<|O.nil<|S.seq<|S.region rfl<|O.q 1 rfl<|O.nil<|S.seq<|S.seq<|S.region rfl<|O.q 1 rfl<|O.qz (.p rfl) rfl aa rfl rfl ai ((F9 8 ha).sub hg) (fun ch ax w hX hW=>by (obtain ⟨hb,rfl,rfl⟩:=hX;exact hR _ _ w ⟨by omega,rfl,rfl⟩ hW)) ?_;rintro mB _ ⟨ZC,a7,ir,mB,rfl,vt,Pq,rfl⟩
 try simp only [an,aq,au]
 refine O.op (.p rfl) (.len rfl underlying24 rfl)<|O.q 1 rfl<|O.nil (S.block ?_);have I7:(rest.take (Int.toNat 8)).length=8:=by simp;omega
 refine S.eM (ι:=Nat) (fun i=>i≤8) (fun i=>[(9,.int .i64 (i:Int)),(3,.int .u64 (nu (rest.take i):Nat))]) [(7,_),(8,_)] (fun i=>[obj b T (mB::cs)]) (fun i=>8 - i) (0) bL (.cons rfl (.cons rfl (.nil))) (.cons rfl (.cons rfl (.nil))) rfl fun i hx ih=>?_;have bh:=cH (g:=g);refine S.seq<|S.region rfl<|O.op (.p rfl) (.lss rfl rfl)<|O.nil (S.seq ?_)
 first|refine S.cm rfl (fun h10=>?_) (fun h10=>?_)|refine S.b_ rfl (fun h10=>?_) (fun h10=>?_)
 ·have hi:i<8:=by omega
  refine S.skip<|S.seq<|S.block<|S.seq<|S.region rfl<|O.bR (.p rfl) underlying24 fO rfl rfl rfl (by first|assumption|exact aj.mono hg zE|exact aj.left zE|exact aj.left (aj.mono hg zE)) (h:=fun UC NN D7 Jd=>?_)
  cases Jd
  refine O.op (.p rfl) (.loadAt lq rfl D7 rfl) ?_;refine O.q 1 rfl<|O.nil<|S.region rfl<|O.q 1 rfl<|O.op (.p rfl) (.shl rfl rfl ah)<|O.q 1 rfl<|O.op (.p rfl) (.lU underlying5 underlying274 rfl)<|O.op (.p rfl) (.or rfl rfl)<|O.q 1 rfl<|O.nil<|S.inBlock<|S.region rfl<|O.op (.p rfl) (.add rfl rfl (IntWalk.i64_in _ ah))<|O.q 1 rfl<|O.nil ?_;rw [Uw _ _ (MQ rest i hi),show (rest.take (Int.toNat 8))[i]=rest[i] from by simp,← G8 rest i ah];exact S.dD (ih (i+1) ah ah)
 ·have hi:i=8:=by omega
  subst hi;refine S.exit rfl<|S.seq<|S.region rfl<|O.q 1 rfl<|O.op (.p rfl) (.lU underlying274 underlying3 rfl)<|O.q 1 rfl<|O.nil<|S.ret results375 rfl fun w hw=>hR _ _ w ?_ hw;exact ⟨by omega,mB,by rw [Yk _ (Nat.lt_of_lt_of_le (B9 rest 8) aB)];rfl,Pq,rfl⟩
theorem JE {r:Fr} (x:Int):ay prog 330 #[.int .i64 x] r [] (aL fun v U=>v=.bool false∧U=[]):=by
 refine ay.of (n:=6) _ rfl func330 rfl rfl rfl fun g hg R hR=>?_;refine S.seq<|S.region rfl<|O.q 1 rfl<|O.nil<|S.seq<|S.region rfl<|O.q 2 rfl<|O.op (.p rfl) (.neq rfl rfl)<|O.aM 5 rfl bL ?_;refine O.q 1 rfl<|O.nil ?_;exact S.rt results330 rfl hR ⟨rfl,rfl⟩
theorem Cy {r:Fr} (x y:Int):ay prog 294 #[.int .i64 x,.int .i64 y] r [] (aL fun v U=>v=.int .i64 (kC x y)∧U=[]):=by
 refine ay.of (n:=20) _ rfl func294 rfl rfl rfl fun g hg R hR=>?_;refine S.seq<|S.region rfl<|O.q 1 rfl<|O.nil<|S.seq<|S.region rfl<|O.q 1 rfl<|O.aC (.p rfl) rfl aa rfl rfl (JE _) ?_;rintro _ _ ⟨rfl,rfl⟩
 try simp only [an,aq,au]
 refine O.q 1 rfl<|O.nil<|S.seq<|S.region rfl<|O.q 1 rfl<|O.aC (.p rfl) rfl aa rfl rfl (JE _) ?_;rintro _ _ ⟨rfl,rfl⟩
 try simp only [an,aq,au]
 refine O.q 1 rfl<|O.nil<|S.seq<|S.seq<|S.region rfl<|O.q 1 rfl<|O.nil<|S.aQ rfl<|S.skip<|S.seq<|S.seq<|S.region rfl<|O.q 1 rfl<|O.nil<|S.aQ rfl<|S.skip<|S.seq<|S.seq<|S.region rfl<|O.q 2 rfl<|O.op (.p rfl) (.lss rfl rfl)<|O.nil ?_
 first|refine S.cm rfl (fun fH=>?_) (fun fH=>?_)|refine S.b_ rfl (fun fH=>?_) (fun fH=>?_)
 ·refine S.seq<|S.region rfl<|O.q 1 rfl<|O.nil ?_
  exact S.rt results294 rfl hR ⟨by simp [kC,fH],rfl⟩
 ·refine S.skip<|S.seq<|S.seq<|S.region rfl<|O.q 2 rfl<|O.op (.p rfl) (.gtr rfl rfl)<|O.nil ?_
  first|refine S.cm rfl (fun tr=>?_) (fun tr=>?_)|refine S.b_ rfl (fun tr=>?_) (fun tr=>?_)
  ·refine S.seq<|S.region rfl<|O.q 1 rfl<|O.nil ?_
   exact S.rt results294 rfl hR ⟨by simp only [kC];rw [if_neg ah,if_pos ah],rfl⟩
  ·refine S.skip<|S.seq<|S.region rfl<|O.q 1 rfl<|O.nil ?_
   exact S.rt results294 rfl hR ⟨by simp only [kC];rw [if_neg ah,if_neg ah],rfl⟩
def ny:List Int→Int
 |[]=>0
 |x::l=>if x≠0 then x else ny l
theorem Ot {l:List Int} {i:Nat} (h:i<l.length):ny (l.drop i)=if l[i]≠0 then l[i] else ny (l.drop (i+1)):=by
 rw [List.drop_eq_getElem_cons h];rfl
theorem Nq {r:Fr} {va:Value} {l:List Int} (ha:aj ag.i64 r va l):ay prog 293 #[va] r [] (aL fun v U=>v=.int .i64 (ny l)∧U=[]):=by
 refine ay.of (n:=18) _ rfl func293 rfl rfl rfl fun g hg R hR=>?_;have ha:=ha.mono hg;have hbd:=ha.bound;obtain ⟨a1,c1,rfl⟩:=ha.shape;refine S.seq<|S.region rfl<|O.q 1 rfl<|O.nil<|S.seq<|S.region rfl<|O.q 1 rfl<|O.nil<|S.seq<|S.seq<|S.region rfl<|O.q 1 rfl<|O.op (.p rfl) (.len rfl underlying104 rfl)<|O.q 1 rfl<|O.nil<|S.block<|S.eM (ι:=Nat) (fun i=>i≤l.length∧ny (l.drop i)=ny l) (fun i=>[(8,.int .i64 (i:Int))]) [(3,_),(6,_),(7,_)] (fun i=>[]) (fun i=>l.length - i) (0) bL (.cons rfl (.nil)) (.cons rfl (.cons rfl (.cons rfl (.nil)))) rfl fun i hx ih=>?_;have bh:=cH (g:=g);obtain ⟨hx1,hx2⟩:=hx;refine S.seq<|S.region rfl<|O.op (.p rfl) (.lss rfl rfl)<|O.nil (S.seq ?_)
 first|refine S.cm rfl (fun h9=>?_) (fun h9=>?_)|refine S.b_ rfl (fun h9=>?_) (fun h9=>?_)
 ·have hi:i<l.length:=by omega
  rw [Ot hi] at hx2;refine S.skip<|S.seq<|S.block<|S.seq<|S.region rfl<|O.bR (.p rfl) underlying104 sH rfl rfl rfl (by first|assumption|exact aj.mono hg zE|exact aj.left zE|exact aj.left (aj.mono hg zE)) (h:=fun AN zi l7 l_=>?_);obtain ⟨rfl,aaj⟩:=l_;refine O.op (.p rfl) (.loadAt cz rfl l7 rfl) ?_;refine O.q 1 rfl<|O.nil<|S.seq<|S.region rfl<|O.q 2 rfl<|O.op (.p rfl) (.neq rfl rfl)<|O.nil ?_
  first|refine S.cm rfl (fun e_=>?_) (fun e_=>?_)|refine S.b_ rfl (fun e_=>?_) (fun e_=>?_)
  ·rw [if_pos e_] at hx2
   clear ih;refine S.seq<|S.region rfl<|O.q 2 rfl<|O.nil ?_;exact S.rt results293 rfl hR ⟨by rw [hx2],rfl⟩
  ·rw [if_neg e_] at hx2
   refine S.skip<|S.inBlock<|S.region rfl<|O.op (.p rfl) (.add rfl rfl (IntWalk.i64_in _ ah))<|O.q 1 rfl<|O.nil ?_;exact S.dD (ih (i+1) (by exact ⟨by omega,hx2⟩) ah)
 ·clear ih
  have hi:i=l.length:=by omega
  subst hi;rw [List.drop_length] at hx2;refine S.exit rfl<|S.seq<|S.region rfl<|O.q 2 rfl<|O.nil ?_;exact S.rt results293 rfl hR ⟨by rw [← hx2];rfl,rfl⟩
theorem Hw {r:Fr} {e:TypeId} {va:Value} {l:List Int}:ay prog 293 #[va] r [av ag.i64 e va l] (aL fun v U=>v=.int .i64 (ny l)∧U=[]) :=
 ay.x2 (U:=[]) (bs:=[_]) fun _ hm hd=>Nq (hm.arr.right hd)
theorem yK {r:Fr} {a b:Int} (d:dz) (h:d=(a,b,())):ay prog 356 #[.agg #[.int .i64 a,.int .i64 b]] r [] (aL fun v U=>v=.bool (mJ d)∧U=[]):=by
 subst h;refine ay.of (n:=21) _ rfl func356 rfl rfl rfl fun g hg R hR=>?_;refine S.seq<|S.region rfl<|O.aN (.p rfl) (.box (cs:=[_,_]) rfl rfl) ?_;rintro _ _ ⟨b1,rfl,rfl⟩;refine O.q 1 rfl<|O.nil<|S.seq<|S.region rfl<|O.op (.p rfl) (.aH tq rfl)<|O.op (.p rfl) (.lo cz) ?_;refine O.op (.p rfl) (.geq rfl rfl)<|O.q 1 rfl ?_
 first|refine O.dK 6 rfl (fun h6=>?_) (fun h6=>?_)|refine O.dA 6 rfl (fun h6=>?_) (fun h6=>?_)
 ·refine O.op (.g rfl rfl) (.aH tq rfl)<|O.op (.g rfl rfl) (.lo cz) ?_
  refine O.op (.g rfl rfl) (.leq rfl rfl)<|O.q 2 rfl ?_
  first|refine O.dK 11 rfl (fun h11=>?_) (fun h11=>?_)|refine O.dA 11 rfl (fun h11=>?_) (fun h11=>?_)
  ·refine O.op (.g rfl rfl) (.aH wW rfl)<|O.op (.g rfl rfl) (.lo cz) ?_
   refine O.op (.g rfl rfl) (.geq rfl rfl)<|O.q 2 rfl ?_
   first|refine O.dK 16 rfl (fun fH=>?_) (fun fH=>?_)|refine O.dA 16 rfl (fun fH=>?_) (fun fH=>?_)
   ·refine O.op (.g rfl rfl) (.aH wW rfl)<|O.op (.g rfl rfl) (.lo cz) ?_
    refine O.op (.g rfl rfl) (.leq rfl rfl)<|O.q 2 rfl<|O.nil ?_;exact S.rt results356 rfl hR ⟨congrArg _ (decide_eq_decide.2 (by simp only [true_and,and_true];omega)),rfl⟩
   ·refine O.q 5 rfl<|O.nil ?_
    exact S.rt results356 rfl hR ⟨congrArg _ (decide_eq_false (by simp only [];omega)).symm,rfl⟩
  ·refine O.q 10 rfl<|O.nil ?_
   exact S.rt results356 rfl hR ⟨congrArg _ (decide_eq_false (by simp only [];omega)).symm,rfl⟩
 ·refine O.q 15 rfl<|O.nil ?_
  exact S.rt results356 rfl hR ⟨congrArg _ (decide_eq_false (by simp only [];omega)).symm,rfl⟩
theorem Oa {r:Fr} {va:Value} {v:List dz} (ha:aj c_ r va v):ay prog 382 #[va] r [] (aL fun u U=>u=.bool (jS v)∧U=[]):=by
 refine ay.of (n:=31) _ rfl func382 rfl rfl rfl fun g hg R hR=>?_;have ha:=ha.mono hg;have hbd:=ha.bound;obtain ⟨a1,c1,rfl⟩:=ha.shape;refine S.seq<|S.region rfl<|O.q 1 rfl<|O.nil<|S.seq<|S.seq<|S.region rfl<|O.q 1 rfl<|O.op (.p rfl) (.len rfl underlying428 rfl)<|O.q 1 rfl<|O.nil<|S.block<|S.eM (ι:=Nat) (fun k=>k≤v.length∧jS (v.take k)=true) (fun k=>[(7,.int .i64 (k:Int))]) [(0,_),(5,_),(6,_)] (fun k=>[]) (fun k=>v.length - k) (0) (by exact ⟨by simp,rfl⟩) (.cons rfl (.nil)) (.cons rfl (.cons rfl (.cons rfl (.nil)))) rfl fun k hx ih=>?_;have bh:=cH (g:=g);obtain ⟨hx1,hx2⟩:=hx;refine S.seq<|S.region rfl<|O.op (.p rfl) (.lss rfl rfl)<|O.nil (S.seq ?_)
 first|refine S.cm rfl (fun h8=>?_) (fun h8=>?_)|refine S.b_ rfl (fun h8=>?_) (fun h8=>?_)
 ·have hk:k<v.length:=by omega
  have hst:=Ya hk hx2
  by_cases hd:mJ v[k]=true
  ·by_cases h0:k=0
   ·
    refine S.skip<|S.seq<|S.block<|S.seq<|S.region rfl<|O.q 1 rfl<|O.bR (.p rfl) underlying428 oG rfl rfl rfl (by first|assumption|exact aj.mono hg zE|exact aj.left zE|exact aj.left (aj.mono hg zE)) (h:=fun AN zi l7 l_=>?_);obtain ⟨rfl,I1,I2⟩:=c_.open l_;refine O.op (.p rfl) (.bE isAgg191 aa rfl l7) ?_;refine O.aN (.p rfl) (.alloc (cs:=[.int .i64 0,.int .i64 0]) zeroValue191 rfl) ?_;rintro _ _ ⟨b4,rfl,rfl⟩;refine O.q 1 rfl<|O.bB rfl (.c9 aa rfl rfl rfl rfl ai aX) ?_;refine O.nil<|S.seq<|S.de ai fun g hs hm h4=>?_;replace hg:=Fr.aI hg hs;replace hR:=bu hR hm
    try replace ha:=ha.mono hs
    try replace l7:=l7.mono hs
    try replace l_:=l_.mono hs
    replace bh:=dQ bh hm;clear hs hm;refine S.bC (L:=[0,1,2,3,4,5,6,7,8,9,10,11,12,13,14,15,16,17]) bz aa ?_;refine .quiet (.p rfl) rfl (fun _=>.bE isAgg191 aa rfl h4) ?_;refine af.aC (.p rfl) aa rfl aa rfl rfl (yK v[k] rfl) ?_;rintro _ _ ⟨rfl,rfl⟩
    try simp only [an,aq,au]
    refine af.sT 13 rfl (by exact hd) ?_;refine .quiet (.p rfl) rfl (fun _=>.not rfl)<|af.q 2 rfl<|.quiet (.g rfl rfl) rfl (fun _=>.gtr rfl rfl)<|af.aM 17 rfl b9 ?_;refine af.q 12 rfl<|aJ.nil<|S.aQ rfl<|S.skip<|S.inBlock<|S.region rfl<|O.op (.p rfl) (.add rfl rfl (IntWalk.i64_in _ ah))<|O.q 1 rfl<|O.nil ?_;exact S.iA bh (S.dD (ih (k+1) (by exact ⟨by omega,hst.2 ⟨hd,fun h=>absurd h ah⟩⟩) ah))
   ·have ot:k - 1<v.length:=by omega
    refine S.skip<|S.seq<|S.block<|S.seq<|S.region rfl<|O.q 1 rfl<|O.bR (.p rfl) underlying428 oG rfl rfl rfl (by first|assumption|exact aj.mono hg zE|exact aj.left zE|exact aj.left (aj.mono hg zE)) (h:=fun AN zi l7 l_=>?_);obtain ⟨rfl,I1,I2⟩:=c_.open l_;refine O.op (.p rfl) (.bE isAgg191 aa rfl l7) ?_;refine O.aN (.p rfl) (.alloc (cs:=[.int .i64 0,.int .i64 0]) zeroValue191 rfl) ?_;rintro _ _ ⟨b4,rfl,rfl⟩;refine O.q 1 rfl<|O.bB rfl (.c9 aa rfl rfl rfl rfl ai aX) ?_;refine O.nil<|S.seq<|S.de ai fun g hs hm h4=>?_;replace hg:=Fr.aI hg hs;replace hR:=bu hR hm
    try replace ha:=ha.mono hs
    try replace l7:=l7.mono hs
    try replace l_:=l_.mono hs
    replace bh:=dQ bh hm;clear hs hm;refine S.bC (L:=[0,1,2,3,4,5,6,7,8,9,10,11,12,13,14,15,16,17]) bz aa ?_;refine .quiet (.p rfl) rfl (fun _=>.bE isAgg191 aa rfl h4) ?_;refine af.aC (.p rfl) aa rfl aa rfl rfl (yK v[k] rfl) ?_;rintro _ _ ⟨rfl,rfl⟩
    try simp only [an,aq,au]
    refine af.sT 13 rfl (by exact hd) ?_;refine .quiet (.p rfl) rfl (fun _=>.not rfl)<|af.q 2 rfl<|.quiet (.g rfl rfl) rfl (fun _=>.gtr rfl rfl)<|af.sT 17 rfl b9 ?_;refine af.q 3 rfl<|.quiet (.g rfl rfl) rfl (fun _=>.sub rfl rfl (IntWalk.i64_in _ ah))<|af.bR (.g rfl rfl) underlying428 oG rfl rfl (show _=(((k - 1):Nat):Int) by omega) (by first|assumption|exact aj.mono hg zE|exact aj.left zE|exact aj.left (aj.mono hg zE)) (h:=fun aaZ YX QC Q4=>?_);obtain ⟨rfl,ZJ,ZO⟩:=c_.open Q4;refine .quiet (.g rfl rfl) rfl (fun _=>.fieldAddr tq rfl)<|.quiet (.g rfl rfl) rfl (fun _=>.loadAt cz rfl QC rfl) ?_;refine .quiet (.g rfl rfl) rfl (fun _=>.fieldAddr tq rfl)<|.quiet (.g rfl rfl) rfl (fun _=>.loadAt cz rfl h4 rfl) ?_;refine .quiet (.g rfl rfl) rfl (fun _=>.geq rfl rfl)<|af.q 2 rfl<|aJ.nil ?_
    first|refine S.cm rfl (fun C8=>?_) (fun C8=>?_)|refine S.b_ rfl (fun C8=>?_) (fun C8=>?_)
    ·refine S.seq<|S.region rfl<|O.q 1 rfl<|O.nil<|S.ret results382 rfl fun w hw=>Holds.end_ hR hw ?_
     refine ⟨_,⟨?_,rfl⟩,by repeat (first|exact aS|exact aU|(apply aT;focus (repeat (first|exact aR|apply zt)))|apply aV)⟩
     congr 1;symm
     refine L2 (i:=k+1) ?_;rw [Bool.eq_false_iff]
     intro e
     have:=(hst.1 e).2 ah
     omega
    ·refine S.skip<|S.inBlock<|S.region rfl<|O.op (.p rfl) (.add rfl rfl (IntWalk.i64_in _ ah))<|O.q 1 rfl<|O.nil ?_
     exact S.iA bh (S.dD (ih (k+1) (by exact ⟨by omega,hst.2 ⟨hd,fun _=>by omega⟩⟩) ah))
  ·have l5 :mJ v[k]=false:=by simpa using hd
   refine S.skip<|S.seq<|S.block<|S.seq<|S.region rfl<|O.q 1 rfl<|O.bR (.p rfl) underlying428 oG rfl rfl rfl (by first|assumption|exact aj.mono hg zE|exact aj.left zE|exact aj.left (aj.mono hg zE)) (h:=fun AN zi l7 l_=>?_);obtain ⟨rfl,I1,I2⟩:=c_.open l_;refine O.op (.p rfl) (.bE isAgg191 aa rfl l7) ?_;refine O.aN (.p rfl) (.alloc (cs:=[.int .i64 0,.int .i64 0]) zeroValue191 rfl) ?_;rintro _ _ ⟨b4,rfl,rfl⟩;refine O.q 1 rfl<|O.bB rfl (.c9 aa rfl rfl rfl rfl ai aX) ?_;refine O.nil<|S.seq<|S.de ai fun g hs hm h4=>?_;replace hg:=Fr.aI hg hs;replace hR:=bu hR hm
   try replace ha:=ha.mono hs
   try replace l7:=l7.mono hs
   try replace l_:=l_.mono hs
   replace bh:=dQ bh hm;clear hs hm;refine S.bC (L:=[0,1,2,3,4,5,6,7,8,9,10,11,12,13,14,15,16,17]) bz aa ?_;refine .quiet (.p rfl) rfl (fun _=>.bE isAgg191 aa rfl h4) ?_;refine af.aC (.p rfl) aa rfl aa rfl rfl (yK v[k] rfl) ?_;rintro _ _ ⟨rfl,rfl⟩
   try simp only [an,aq,au]
   refine af.aM 13 rfl (by exact l5) ?_;refine .quiet (.p rfl) rfl (fun _=>.not rfl)<|af.q 15 rfl<|aJ.nil<|S.bx rfl<|S.seq<|S.region rfl<|O.q 1 rfl<|O.nil ?_;clear ih;refine S.ret results382 rfl fun w hw=>Holds.end_ hR hw ?_;refine ⟨_,⟨?_,rfl⟩,by repeat (first|exact aS|exact aU|(apply aT;focus (repeat (first|exact aR|apply zt)))|apply aV)⟩
   congr 1;symm
   refine L2 (i:=k+1) ?_;rw [Bool.eq_false_iff]
   intro e
   exact hd (hst.1 e).1
 ·clear ih
  have hk:k=v.length:=by omega
  subst hk;rw [List.take_length] at hx2;refine S.exit rfl<|S.seq<|S.region rfl<|O.q 1 rfl<|O.nil ?_;exact S.rt results382 rfl hR ⟨by rw [hx2],rfl⟩
theorem G1 {r:Fr} {a b c:Int}:ay prog 395 #[.agg #[.int .i64 a,.int .i64 b],.int .i64 c] r [] (aL fun u U=>u=.int .i64 (kC a c)∧U=[]):=by
 refine ay.of (n:=9) _ rfl func395 rfl rfl rfl fun g hg R hR=>?_;refine S.seq<|S.region rfl<|O.aN (.p rfl) (.box (cs:=[_,_]) rfl rfl) ?_;rintro _ _ ⟨b2,rfl,rfl⟩;refine O.q 1 rfl<|O.nil<|S.seq<|S.region rfl<|O.op (.p rfl) (.aH tq rfl)<|O.op (.p rfl) (.lo cz) ?_;refine O.q 1 rfl<|O.aC (.p rfl) rfl aa rfl rfl (Cy _ _) ?_;rintro _ _ ⟨rfl,rfl⟩
 try simp only [an,aq,au]
 refine O.q 1 rfl<|O.nil ?_;exact S.rt results395 rfl hR ⟨rfl,rfl⟩
theorem II {s:Nat} (h:s≤18446744073709551614 / 2):IntKind.i64.wrap ((IntKind.u64.wrap (s:Int)).fdiv (2 ^ min (1:Int).toNat IntKind.u64.bits))=((s / 2:Nat):Int):=by
 have e:IntKind.u64.wrap (s:Int)=(s:Int):=by rw [uG];unfold u64;omega
 rw [e,IntKind.wrap_i64];have:(2:Int) ^ min (1:Int).toNat IntKind.u64.bits=2:=by decide
 rw [this];have h2:(s:Int).fdiv 2=((s / 2:Nat):Int):=by rw [Int.fdiv_eq_ediv_of_nonneg _ ah];omega
 rw [h2];omega
theorem M3 {r:Fr} {va:Value} {v:List dz} (c:Int) (ha:aj c_ r va v) (hv:sW v) (hl:v.length≤1000000000000):ay prog 394 #[va,.int .i64 c,.func (.func 395) #[] #[]] r []
  (aL fun u U=>∃ (k:Nat) (b:Bool),u=.tuple #[.int .i64 (k:Int),.bool b]∧k≤v.length∧(b=true→∃ h:k<v.length,v[k].1=c)∧(b=false→∀ i (hi:i<v.length),v[i].1≠c)∧U=[]):=by
 refine ay.of (n:=49) _ rfl func394 rfl rfl rfl fun g hg R hR=>?_;have ha:=ha.mono hg;obtain ⟨a1,c1,rfl⟩:=ha.shape;have hlt:∀ i j (hi:i<v.length) (hj:j<v.length),i<j→v[i].1<v[j].1:=fun i j hi hj h=>List.pairwise_iff_getElem.1 hv i j hi hj h;refine S.seq<|S.region rfl<|O.q 2 rfl<|O.nil<|S.seq<|S.region rfl<|O.q 1 rfl<|O.op (.p rfl) (.len rfl underlying428 rfl)<|O.q 1 rfl<|O.nil<|S.seq<|S.region rfl<|O.q 3 rfl<|O.nil<|S.seq<|S.block<|S.jO (ι:=Nat) (dJ:=Nat) (fun i j=>i≤j∧j≤v.length∧(∀ q (hq:q<v.length),q<i→v[q].1<c)∧(∀ q (hq:q<v.length),j≤q→c≤v[q].1)) (fun i j=>[(9,.int .i64 (i:Int)),(10,.int .i64 (j:Int))]) [(0,_),(1,_),(2,_),(8,_)] (fun i j=>[]) (fun i j=>j - i) (0) (v.length) (by exact ⟨by omega,by omega,fun q _ h=>absurd h ah,fun q hq h=>absurd hq ah⟩) (.cons rfl (.cons rfl (.nil))) (.cons rfl (.cons rfl (.cons rfl (.cons rfl (.nil))))) rfl fun i j hx ih=>?_;have bh:=cH (g:=g);obtain ⟨hij,hjl,hlo,hhi⟩:=hx;refine S.seq<|S.seq<|S.region rfl<|O.q 2 rfl<|O.op (.p rfl) (.lss rfl rfl)<|O.nil ?_
 first|refine S.cm rfl (fun iV=>?_) (fun iV=>?_)|refine S.b_ rfl (fun iV=>?_) (fun iV=>?_)
 ·have hm:(i+j) / 2<v.length:=by omega
  have lB:kC v[(i+j) / 2].1 c<0↔v[(i+j) / 2].1<c:=by unfold kC;split<;>(try split)<;>omega
  refine S.skip<|S.block<|S.seq<|S.region rfl<|O.q 2 rfl<|O.op (.p rfl) (.add rfl rfl (IntWalk.i64_in _ ah))<|O.op (.p rfl) (.lU underlying3 underlying197 rfl)<|O.op (.p rfl) (.shr rfl rfl ah)<|O.op (.p rfl) (.lU underlying197 underlying3 rfl)<|O.slot 23 (v' :=.int .i64 (((i+j) / 2:Nat):Int)) rfl (by exact congrArg _ (II (s:=i+j) ah)) ?_;refine O.q 1 rfl<|O.nil<|S.seq<|S.region rfl<|O.q 3 rfl<|O.bR (.p rfl) underlying428 oG rfl rfl (show _=((((i+j) / 2):Nat):Int) by omega) (by first|assumption|exact aj.mono hg zE|exact aj.left zE|exact aj.left (aj.mono hg zE)) (h:=fun UF NQ Ea Ex=>?_);obtain ⟨rfl,ZK,ZP⟩:=c_.open Ex;refine O.op (.p rfl) (.bE isAgg191 aa rfl Ea) ?_;refine O.q 1 rfl<|O.aC (.p rfl) rfl aa rfl rfl (G1) ?_;rintro _ _ ⟨rfl,rfl⟩
  try simp only [an,aq,au]
  refine O.op (.p rfl) (.lss rfl rfl)<|O.nil ?_
  first|refine S.cm rfl (fun gR=>?_) (fun gR=>?_)|refine S.b_ rfl (fun gR=>?_) (fun gR=>?_)
  ·have hc:=lB.1 gR
   refine S.region rfl<|O.q 1 rfl<|O.op (.p rfl) (.add rfl rfl (IntWalk.i64_in _ ah))<|O.q 1 rfl<|O.nil (S.inBlock ?_);exact S.dD (ih ((i+j) / 2+1) (j) (by (refine ⟨by omega,by omega,fun q hq h=>?_,hhi⟩;by_cases e:q=(i+j) / 2;(subst e;exact hc);(have:=hlt q ((i+j) / 2) hq hm ah;omega))) ah)
  ·have hc:c≤v[(i+j) / 2].1:=by have:=mt lB.2 gR;omega
   refine S.region rfl<|O.q 2 rfl<|O.nil (S.inBlock ?_);exact S.dD (ih (i) ((i+j) / 2) (by (refine ⟨by omega,by omega,hlo,fun q hq h=>?_⟩;by_cases e:q=(i+j) / 2;(subst e;exact hc);(have:=hlt ((i+j) / 2) q hm hq ah;omega))) ah)
 ·clear ih
  have e:i=j:=by omega
  subst e
  by_cases hi:i<v.length
  ·
   have hc:=hhi i hi (Nat.le_refl _);have lB:kC v[i].1 c=0↔v[i].1=c:=by unfold kC;split<;>(try split)<;>omega
   refine S.exit rfl<|S.seq<|S.region rfl<|O.q 3 rfl<|O.op (.p rfl) (.lss rfl rfl)<|O.sT 38 rfl b9 ?_;refine O.q 4 rfl<|O.bR (.g rfl rfl) underlying428 oG rfl rfl rfl (by first|assumption|exact aj.mono hg zE|exact aj.left zE|exact aj.left (aj.mono hg zE)) (h:=fun Fv CD tT tX=>?_);obtain ⟨rfl,ZM,ZR⟩:=c_.open tX;refine O.op (.g rfl rfl) (.bE isAgg191 aa rfl tT) ?_;refine O.q 1 rfl<|O.aC (.g rfl rfl) rfl aa rfl rfl (G1) ?_;rintro _ _ ⟨rfl,rfl⟩
   try simp only [an,aq,au]
   refine O.op (.g rfl rfl) (.eql rfl rfl)<|O.q 3 rfl<|O.nil<|S.mW results394 rfl rfl fun w hw=>Holds.end_ hR hw ?_;refine ⟨_,⟨i,_,rfl,hjl,fun hb=>⟨hi,lB.1 (by simpa using hb)⟩,fun hb q hq e=>?_,rfl⟩,by repeat (first|exact aS|exact aU|(apply aT;focus (repeat (first|exact aR|apply zt)))|apply aV)⟩;have hne:¬ v[i].1=c:=fun e2=>by simp [lB.2 e2] at hb
   rcases Nat.lt_trichotomy q i with h|h|h
   ·have:=hlo q hq h;omega
   ·subst h;exact hne e
   ·have:=hlt i q hi hq h;omega
  ·
   refine S.exit rfl<|S.seq<|S.region rfl<|O.q 3 rfl<|O.op (.p rfl) (.lss rfl rfl)<|O.aM 38 rfl b9 ?_;refine O.q 12 rfl<|O.nil<|S.mW results394 rfl rfl fun w hw=>Holds.end_ hR hw ?_;exact pk ⟨i,false,rfl,hjl,fun h=>(by cases h),fun _ q hq e=>by have:=hlo q hq ah;omega,rfl⟩
theorem MH {r:Fr} {va:Value} {v:List dz} (c:Int) (ha:aj c_ r va v) (hv:sW v) (hl:v.length≤1000000000000):ay prog 383 #[va,.int .i64 c] r []
  (aL fun u U=>∃ (k:Nat) (b:Bool),u=.tuple #[.int .i64 (k:Int),.bool b]∧k≤v.length∧(b=true→∃ h:k<v.length,v[k].1=c)∧(b=false→∀ i (hi:i<v.length),v[i].1≠c)∧U=[]):=by
 refine ay.of (n:=11) _ rfl func383 rfl rfl rfl fun g hg R hR=>?_;have ha:=ha.mono hg;refine S.seq<|S.region rfl<|O.q 2 rfl<|O.nil<|S.seq<|S.region rfl<|O.q 2 rfl<|O.aC (.p rfl) rfl aa rfl rfl (M3 _ (by first|assumption|exact aj.mono hg zE|exact aj.left zE|exact aj.left (aj.mono hg zE)) zE bD) ?_;rintro L1 _ ⟨S_,j0,rfl,P7,Rm,PS,rfl⟩
 try simp only [an,aq,au]
 refine O.q 4 rfl<|O.nil<|S.mW results383 rfl rfl fun w hw=>Holds.end_ hR hw ?_;exact pk ⟨S_,j0,rfl,P7,Rm,PS,rfl⟩
theorem N1 {r:Fr} {va:Value} {v:List dz} {a b:Int} (d:dz) (h:d=(a,b,())) (ha:aj c_ r va v) (hv:sW v) (hl:v.length≤1000000000000):ay prog 357 #[va,.agg #[.int .i64 a,.int .i64 b]] r []
  (aL fun u U=>u=.bool (vv v d)∧U=[]):=by
 subst h;refine ay.of (n:=25) _ rfl func357 rfl rfl rfl fun g hg R hR=>?_;have ha:=ha.mono hg;obtain ⟨a1,c1,rfl⟩:=ha.shape;refine S.seq<|S.region rfl<|O.aN (.p rfl) (.box (cs:=[_,_]) rfl rfl) ?_;rintro _ _ ⟨b3,rfl,rfl⟩;refine O.q 1 rfl<|O.nil<|S.seq<|S.region rfl<|O.q 1 rfl<|O.op (.p rfl) (.aH tq rfl)<|O.op (.p rfl) (.lo cz) ?_;refine O.aC (.p rfl) rfl aa rfl rfl (MH _ (by first|assumption|exact aj.mono hg zE|exact aj.left zE|exact aj.left (aj.mono hg zE)) zE bD) ?_;rintro v11 _ ⟨S8,MK,rfl,ZS,Rl,PR,rfl⟩
 try simp only [an,aq,au]
 refine O.q 5 rfl<|O.nil (S.seq ?_)
 cases MK with
 |true =>
  obtain ⟨hk,hkc⟩:=Rl rfl;refine S.de ai fun g hs hm h3=>?_;replace hg:=Fr.aI hg hs;replace hR:=bu hR hm
  try replace ha:=ha.mono hs
  clear hs hm;refine S.bC (L:=[0,1,2,3,4,5,6,7,8,9,10,11]) bz aa ?_;refine af.q 1 rfl<|af.sT 14 rfl (by first|decide|simp) ?_;refine af.q 3 rfl<|af.bR (.g rfl rfl) underlying428 oG rfl rfl (show _=(((S8):Nat):Int) by omega) (by first|assumption|exact aj.mono hg zE|exact aj.left zE|exact aj.left (aj.mono hg zE)) (h:=fun AO zj l8 mb=>?_);obtain ⟨rfl,ZI,ZN⟩:=c_.open mb;refine .quiet (.g rfl rfl) rfl (fun _=>.fieldAddr wW rfl)<|.quiet (.g rfl rfl) rfl (fun _=>.loadAt cz rfl (l8.drop 1) rfl) ?_;refine .quiet (.g rfl rfl) rfl (fun _=>.fieldAddr wW rfl)<|.quiet (.g rfl rfl) rfl (fun _=>.loadAt cz rfl (h3.drop 1) rfl) ?_;refine .quiet (.g rfl rfl) rfl (fun _=>.geq rfl rfl)<|af.q 2 rfl<|aJ.nil ?_;exact S.rt results357 rfl hR ⟨by rw [Pw hv hk hkc],rfl⟩
 |false =>
  refine S.de ai fun g hs hm h3=>?_;replace hg:=Fr.aI hg hs;replace hR:=bu hR hm
  try replace ha:=ha.mono hs
  clear hs hm;refine S.bC (L:=[0,1,2,3,4,5,6,7,8,9,10,11]) bz aa ?_;refine af.q 1 rfl<|af.aM 14 rfl (by first|decide|simp) ?_;refine af.q 11 rfl<|aJ.nil ?_;exact S.rt results357 rfl hR ⟨by rw [Px (PR rfl)],rfl⟩
theorem qo {r:Fr} {va:Value} {v:List dz} (ha:aj c_ r va v):ay prog 355 #[va] r [] (aL fun u U=>u=.bool (jS v)∧U=[]):=by
 refine ay.of (n:=5) _ rfl func355 rfl rfl rfl fun g hg R hR=>?_;have ha:=ha.mono hg;refine S.seq<|S.region rfl<|O.q 1 rfl<|O.nil<|S.seq<|S.region rfl<|O.q 1 rfl<|O.aC (.p rfl) rfl aa rfl rfl (Oa (by first|assumption|exact aj.mono hg zE|exact aj.left zE|exact aj.left (aj.mono hg zE))) ?_;rintro _ _ ⟨rfl,rfl⟩
 try simp only [an,aq,au]
 refine O.q 1 rfl<|O.nil ?_;exact S.rt results355 rfl hR ⟨rfl,rfl⟩
theorem Gi {r:Fr} {va:Value} {v:List dz} {a b:Int} (d:dz) (h:d=(a,b,())) (ha:aj c_ r va v):ay prog 333 #[va,.agg #[.int .i64 a,.int .i64 b]] r [] (aL fun u U=>u=.bool (rU v d)∧U=[]):=by
 subst h;refine ay.of (n:=16) _ rfl func333 rfl rfl rfl fun g hg R hR=>?_;have ha:=ha.mono hg
 cases hv:jS v with
 |false =>
  refine S.seq<|S.region rfl<|O.aN (.p rfl) (.box (cs:=[_,_]) rfl rfl) ?_;rintro _ _ ⟨b3,rfl,rfl⟩;refine O.q 1 rfl<|O.nil<|S.seq<|S.region rfl<|O.q 1 rfl<|O.aC (.p rfl) rfl aa rfl rfl (qo (by first|assumption|exact aj.mono hg zE|exact aj.left zE|exact aj.left (aj.mono hg zE))) ?_;rintro _ _ ⟨rfl,rfl⟩
  try simp only [an,aq,au]
  refine O.aM 6 rfl (by exact hv) ?_;refine O.q 10 rfl<|O.nil ?_;exact S.rt results333 rfl hR ⟨by simp [rU,hv],rfl⟩
 |true =>
  have hr:=(uD.1 hv).2;have hl:=yq hv
  cases hd:mJ (a,b,()) with
  |false =>
   refine S.seq<|S.region rfl<|O.aN (.p rfl) (.box (cs:=[_,_]) rfl rfl) ?_;rintro _ _ ⟨b3,rfl,rfl⟩;refine O.q 1 rfl<|O.nil<|S.seq<|S.region rfl<|O.q 1 rfl<|O.aC (.p rfl) rfl aa rfl rfl (qo (by first|assumption|exact aj.mono hg zE|exact aj.left zE|exact aj.left (aj.mono hg zE))) ?_;rintro _ _ ⟨rfl,rfl⟩
   try simp only [an,aq,au]
   refine O.sT 6 rfl (by exact hv) ?_;refine O.q 1 rfl<|O.op (.g rfl rfl) (.gZ (news:=[_,_]) isAgg191) ?_;refine O.aC (.g rfl rfl) rfl aa rfl rfl (yK _ rfl) ?_;rintro _ _ ⟨rfl,rfl⟩
   try simp only [an,aq,au]
   refine O.aM 9 rfl (by exact hd) ?_;refine O.q 7 rfl<|O.nil ?_;exact S.rt results333 rfl hR ⟨by simp [rU,hd],rfl⟩
  |true =>
   refine S.seq<|S.region rfl<|O.aN (.p rfl) (.box (cs:=[_,_]) rfl rfl) ?_;rintro _ _ ⟨b3,rfl,rfl⟩;refine O.q 1 rfl<|O.nil<|S.seq<|S.region rfl<|O.q 1 rfl<|O.aC (.p rfl) rfl aa rfl rfl (qo (by first|assumption|exact aj.mono hg zE|exact aj.left zE|exact aj.left (aj.mono hg zE))) ?_;rintro _ _ ⟨rfl,rfl⟩
   try simp only [an,aq,au]
   refine O.sT 6 rfl (by exact hv) ?_;refine O.q 1 rfl<|O.op (.g rfl rfl) (.gZ (news:=[_,_]) isAgg191) ?_;refine O.aC (.g rfl rfl) rfl aa rfl rfl (yK _ rfl) ?_;rintro _ _ ⟨rfl,rfl⟩
   try simp only [an,aq,au]
   refine O.sT 9 rfl (by exact hd) ?_;refine O.q 3 rfl<|O.op (.g rfl rfl) (.gZ (news:=[_,_]) isAgg191) ?_;refine O.aC (.g rfl rfl) rfl aa rfl rfl (N1 _ rfl (by first|assumption|exact aj.mono hg zE|exact aj.left zE|exact aj.left (aj.mono hg zE)) zE bD) ?_;rintro _ _ ⟨rfl,rfl⟩
   try simp only [an,aq,au]
   refine O.q 2 rfl<|O.nil ?_;exact S.rt results333 rfl hR ⟨by simp [rU,hv,hd],rfl⟩
theorem uE {r:Fr} {cs:List Value} {x:aP} (h:cv.rel r cs x):ay prog 334 #[.agg cs.toArray] r [] (aL fun v U=>v=.agg #[.int .i64 x.2.1,.int .i64 x.2.2.1]∧U=[]):=by
 obtain ⟨v3,v5,v6,rfl,k0,k1,k2,bk,fM,eL⟩:=cv.open h;refine ay.of (n:=10) _ rfl func334 rfl rfl rfl fun g hg R hR=>?_;refine S.seq<|S.region rfl<|O.aN (.p rfl) (.box (cs:=[_,_,_,_,_,_,_]) rfl rfl) ?_;rintro _ _ ⟨b1,rfl,rfl⟩;refine O.aN (.p rfl) (.alloc (cs:=[.int .i64 0,.int .i64 0]) zeroValue191 rfl) ?_;rintro _ _ ⟨b2,rfl,rfl⟩;refine O.nil<|S.seq<|S.region rfl<|O.op (.p rfl) (.aH fG rfl)<|O.op (.p rfl) (.aH vf rfl)<|O.op (.p rfl) (.lo cz) ?_;refine O.op (.p rfl) (.aH fG rfl)<|O.op (.p rfl) (.aH vg rfl)<|O.op (.p rfl) (.lo cz) ?_;refine O.op (.p rfl) (.build (cs:=[_,_]) underlying191 rfl rfl rfl rfl rfl)<|O.bB rfl (.c9 aa rfl rfl rfl rfl ai aX) ?_;refine O.nil<|S.vX results334 isAgg191 aa rfl ai fun w hw=>Holds.end_ hR hw ?_;exact pk ⟨rfl,rfl⟩
theorem sN {r:Fr} {cs:List Value} {x:aP} (h:cv.rel r cs x):ay prog 332 #[.agg cs.toArray] r [] (aL fun v U=>v=.bool (shaped x)∧U=[]):=by
 obtain ⟨v3,v5,v6,rfl,k0,k1,k2,bk,fM,eL⟩:=cv.open h;refine ay.of (n:=48) _ rfl func332 rfl rfl rfl fun g hg R hR=>?_;have h:=h.mono hg;have bk:=bk.mono hg;have fM:=fM.mono hg;have eL:=eL.mono hg;obtain ⟨a3,c3,rfl⟩:=bk.shape;obtain ⟨a5,dS,rfl⟩:=fM.shape;obtain ⟨a6,dH,rfl⟩:=eL.shape
 by_cases n1:x.1.length<1
 ·have e:shaped x=false:=by unfold shaped;rw [decide_eq_false (show ¬ 1≤x.1.length by omega)];rfl
  refine S.seq<|S.region rfl<|O.aN (.p rfl) (.box (cs:=[_,_,_,_,_,_,_]) rfl rfl) ?_;rintro _ _ ⟨b1,rfl,rfl⟩;refine O.q 1 rfl<|O.nil<|S.seq<|S.block<|S.seq<|S.seq<|S.region rfl<|O.op (.p rfl) (.aH fG rfl)<|O.op (.p rfl) (.aH e6 rfl)<|O.op (.p rfl) (.lo bQ) ?_;refine O.op (.p rfl) (.c5 rfl underlying9 rfl)<|O.op (.p rfl) (.lss rfl rfl)<|O.sT 8 rfl b9 ?_;refine O.q 1 rfl<|O.nil<|S.bx rfl<|S.skip<|S.bx rfl<|S.seq<|S.region rfl<|O.q 1 rfl<|O.nil ?_;exact S.rt results332 rfl hR ⟨by rw [e],rfl⟩
 have e1:1≤x.1.length:=by omega
 by_cases n2:64<x.1.length
 ·have e:shaped x=false:=by unfold shaped;rw [decide_eq_false (show ¬ x.1.length≤64 by omega)];simp
  refine S.seq<|S.region rfl<|O.aN (.p rfl) (.box (cs:=[_,_,_,_,_,_,_]) rfl rfl) ?_;rintro _ _ ⟨b1,rfl,rfl⟩;refine O.q 1 rfl<|O.nil<|S.seq<|S.block<|S.seq<|S.seq<|S.region rfl<|O.op (.p rfl) (.aH fG rfl)<|O.op (.p rfl) (.aH e6 rfl)<|O.op (.p rfl) (.lo bQ) ?_;refine O.op (.p rfl) (.c5 rfl underlying9 rfl)<|O.op (.p rfl) (.lss rfl rfl)<|O.aM 8 rfl b9 ?_;refine O.q 1 rfl<|O.nil<|S.aQ rfl<|S.seq<|S.region rfl<|O.op (.p rfl) (.aH fG rfl)<|O.op (.p rfl) (.aH e6 rfl)<|O.op (.p rfl) (.lo bQ) ?_;refine O.op (.p rfl) (.c5 rfl underlying9 rfl)<|O.op (.p rfl) (.gtr rfl rfl)<|O.sT 13 rfl b9 ?_;refine O.q 1 rfl<|O.nil<|S.bx rfl<|S.skip<|S.bx rfl<|S.seq<|S.region rfl<|O.q 1 rfl<|O.nil ?_;exact S.rt results332 rfl hR ⟨by rw [e],rfl⟩
 have e2:x.1.length≤64:=by omega
 have Ah:jS [iE x]=mJ (iE x):=by
  cases hd:mJ (iE x) with
  |true=>rw [uD];exact ⟨fun d q=>by rw [List.mem_singleton.1 q];exact hd,List.pairwise_singleton ..⟩
  |false =>
   rw [Bool.eq_false_iff]
   intro q
   have:=(uD.1 q).1 _ (List.mem_singleton.2 rfl);rw [hd] at this;cases this
 cases ck:mJ (iE x) with
 |false =>
  have e:shaped x=false:=by unfold shaped;rw [ck];simp
  refine S.seq<|S.region rfl<|O.aN (.p rfl) (.box (cs:=[_,_,_,_,_,_,_]) rfl rfl) ?_;rintro _ _ ⟨b1,rfl,rfl⟩;refine O.q 1 rfl<|O.nil<|S.seq<|S.block<|S.seq<|S.seq<|S.region rfl<|O.op (.p rfl) (.aH fG rfl)<|O.op (.p rfl) (.aH e6 rfl)<|O.op (.p rfl) (.lo bQ) ?_;refine O.op (.p rfl) (.c5 rfl underlying9 rfl)<|O.op (.p rfl) (.lss rfl rfl)<|O.aM 8 rfl b9 ?_;refine O.q 1 rfl<|O.nil<|S.aQ rfl<|S.seq<|S.region rfl<|O.op (.p rfl) (.aH fG rfl)<|O.op (.p rfl) (.aH e6 rfl)<|O.op (.p rfl) (.lo bQ) ?_;refine O.op (.p rfl) (.c5 rfl underlying9 rfl)<|O.op (.p rfl) (.gtr rfl rfl)<|O.aM 13 rfl b9 ?_;refine O.q 1 rfl<|O.nil<|S.aQ rfl<|S.seq<|S.region rfl<|O.op (.p rfl) (.gZ (news:=[_,_,_,_,_,_,_]) isAgg415) ?_;refine O.aC (.p rfl) rfl aa rfl rfl (uE (by first|assumption|exact ag.rel.mono zE hg)) ?_;rintro _ _ ⟨rfl,rfl⟩
  try simp only [an,aq,au]
  refine O.aN (.p rfl) (.cA (T:=c_) (ys:=[iE x]) underlying100 rL aB rfl rfl ⟨c_.mk k1 k2,trivial⟩ aB) ?_;rintro _ _ ⟨en,eo,rfl,rfl⟩;refine O.fo ai fun g hs hm tE=>?_;replace hg:=Fr.aI hg hs;replace hR:=bu hR hm
  try replace h:=h.mono hs
  try replace bk:=bk.mono hs
  try replace fM:=fM.mono hs
  try replace eL:=eL.mono hs
  clear hs hm;refine O.aC (.p rfl) rfl aa rfl rfl (qo (by first|assumption|exact aj.mono hg zE|exact aj.left zE|exact aj.left (aj.mono hg zE))) ?_;rintro _ _ ⟨rfl,rfl⟩
  try simp only [an,aq,au]
  refine O.aM 17 rfl (by rw [Ah,ck]) ?_;refine O.op (.p rfl) (.not rfl)<|O.q 1 rfl<|O.nil<|S.bx rfl<|S.skip<|S.bx rfl<|S.seq<|S.region rfl<|O.q 1 rfl<|O.nil ?_;exact S.rt results332 rfl hR ⟨by rw [e],rfl⟩
 |true =>
  cases fm:jS x.2.2.2.1 with
  |false =>
   have e:shaped x=false:=by unfold shaped;rw [fm];simp
   refine S.seq<|S.region rfl<|O.aN (.p rfl) (.box (cs:=[_,_,_,_,_,_,_]) rfl rfl) ?_;rintro _ _ ⟨b1,rfl,rfl⟩;refine O.q 1 rfl<|O.nil<|S.seq<|S.block<|S.seq<|S.seq<|S.region rfl<|O.op (.p rfl) (.aH fG rfl)<|O.op (.p rfl) (.aH e6 rfl)<|O.op (.p rfl) (.lo bQ) ?_;refine O.op (.p rfl) (.c5 rfl underlying9 rfl)<|O.op (.p rfl) (.lss rfl rfl)<|O.aM 8 rfl b9 ?_;refine O.q 1 rfl<|O.nil<|S.aQ rfl<|S.seq<|S.region rfl<|O.op (.p rfl) (.aH fG rfl)<|O.op (.p rfl) (.aH e6 rfl)<|O.op (.p rfl) (.lo bQ) ?_;refine O.op (.p rfl) (.c5 rfl underlying9 rfl)<|O.op (.p rfl) (.gtr rfl rfl)<|O.aM 13 rfl b9 ?_;refine O.q 1 rfl<|O.nil<|S.aQ rfl<|S.seq<|S.region rfl<|O.op (.p rfl) (.gZ (news:=[_,_,_,_,_,_,_]) isAgg415) ?_;refine O.aC (.p rfl) rfl aa rfl rfl (uE (by first|assumption|exact ag.rel.mono zE hg)) ?_;rintro _ _ ⟨rfl,rfl⟩
   try simp only [an,aq,au]
   refine O.aN (.p rfl) (.cA (T:=c_) (ys:=[iE x]) underlying100 rL aB rfl rfl ⟨c_.mk k1 k2,trivial⟩ aB) ?_;rintro _ _ ⟨en,eo,rfl,rfl⟩;refine O.fo ai fun g hs hm tE=>?_;replace hg:=Fr.aI hg hs;replace hR:=bu hR hm
   try replace h:=h.mono hs
   try replace bk:=bk.mono hs
   try replace fM:=fM.mono hs
   try replace eL:=eL.mono hs
   clear hs hm;refine O.aC (.p rfl) rfl aa rfl rfl (qo (by first|assumption|exact aj.mono hg zE|exact aj.left zE|exact aj.left (aj.mono hg zE))) ?_;rintro _ _ ⟨rfl,rfl⟩
   try simp only [an,aq,au]
   refine O.sT 17 rfl (by rw [Ah,ck]) ?_;refine O.op (.p rfl) (.not rfl)<|O.q 1 rfl<|O.nil<|S.aQ rfl<|S.seq<|S.region rfl<|O.op (.p rfl) (.aH fG rfl)<|O.op (.p rfl) (.aH fF rfl)<|O.op (.p rfl) (.lo eU) ?_;refine O.aC (.p rfl) rfl aa rfl rfl (qo (by first|assumption|exact aj.mono hg zE|exact aj.left zE|exact aj.left (aj.mono hg zE))) ?_;rintro _ _ ⟨rfl,rfl⟩
   try simp only [an,aq,au]
   refine O.aM 22 rfl (by exact fm) ?_;refine O.op (.p rfl) (.not rfl)<|O.q 1 rfl<|O.nil<|S.bx rfl<|S.skip<|S.bx rfl<|S.seq<|S.region rfl<|O.q 1 rfl<|O.nil ?_;exact S.rt results332 rfl hR ⟨by rw [e],rfl⟩
  |true =>
   cases nw:rU x.2.2.2.1 (iE x) with
   |true =>
    have e:shaped x=false:=by unfold shaped;rw [nw];simp
    refine S.seq<|S.region rfl<|O.aN (.p rfl) (.box (cs:=[_,_,_,_,_,_,_]) rfl rfl) ?_;rintro _ _ ⟨b1,rfl,rfl⟩;refine O.q 1 rfl<|O.nil<|S.seq<|S.block<|S.seq<|S.seq<|S.region rfl<|O.op (.p rfl) (.aH fG rfl)<|O.op (.p rfl) (.aH e6 rfl)<|O.op (.p rfl) (.lo bQ) ?_;refine O.op (.p rfl) (.c5 rfl underlying9 rfl)<|O.op (.p rfl) (.lss rfl rfl)<|O.aM 8 rfl b9 ?_;refine O.q 1 rfl<|O.nil<|S.aQ rfl<|S.seq<|S.region rfl<|O.op (.p rfl) (.aH fG rfl)<|O.op (.p rfl) (.aH e6 rfl)<|O.op (.p rfl) (.lo bQ) ?_;refine O.op (.p rfl) (.c5 rfl underlying9 rfl)<|O.op (.p rfl) (.gtr rfl rfl)<|O.aM 13 rfl b9 ?_;refine O.q 1 rfl<|O.nil<|S.aQ rfl<|S.seq<|S.region rfl<|O.op (.p rfl) (.gZ (news:=[_,_,_,_,_,_,_]) isAgg415) ?_;refine O.aC (.p rfl) rfl aa rfl rfl (uE (by first|assumption|exact ag.rel.mono zE hg)) ?_;rintro _ _ ⟨rfl,rfl⟩
    try simp only [an,aq,au]
    refine O.aN (.p rfl) (.cA (T:=c_) (ys:=[iE x]) underlying100 rL aB rfl rfl ⟨c_.mk k1 k2,trivial⟩ aB) ?_;rintro _ _ ⟨en,eo,rfl,rfl⟩;refine O.fo ai fun g hs hm tE=>?_;replace hg:=Fr.aI hg hs;replace hR:=bu hR hm
    try replace h:=h.mono hs
    try replace bk:=bk.mono hs
    try replace fM:=fM.mono hs
    try replace eL:=eL.mono hs
    clear hs hm;refine O.aC (.p rfl) rfl aa rfl rfl (qo (by first|assumption|exact aj.mono hg zE|exact aj.left zE|exact aj.left (aj.mono hg zE))) ?_;rintro _ _ ⟨rfl,rfl⟩
    try simp only [an,aq,au]
    refine O.sT 17 rfl (by rw [Ah,ck]) ?_;refine O.op (.p rfl) (.not rfl)<|O.q 1 rfl<|O.nil<|S.aQ rfl<|S.seq<|S.region rfl<|O.op (.p rfl) (.aH fG rfl)<|O.op (.p rfl) (.aH fF rfl)<|O.op (.p rfl) (.lo eU) ?_;refine O.aC (.p rfl) rfl aa rfl rfl (qo (by first|assumption|exact aj.mono hg zE|exact aj.left zE|exact aj.left (aj.mono hg zE))) ?_;rintro _ _ ⟨rfl,rfl⟩
    try simp only [an,aq,au]
    refine O.sT 22 rfl (by exact fm) ?_;refine O.op (.p rfl) (.not rfl)<|O.q 1 rfl<|O.nil<|S.aQ rfl<|S.de ai fun g hs hm e8=>?_;replace hg:=Fr.aI hg hs;replace hR:=bu hR hm
    try replace h:=h.mono hs
    try replace bk:=bk.mono hs
    try replace fM:=fM.mono hs
    try replace eL:=eL.mono hs
    try replace tE:=tE.mono hs
    clear hs hm;refine S.bC (L:=[0,1,2,3,4,5,6]) bz aa ?_;refine .quiet (.p rfl) rfl (fun _=>.fieldAddr fG rfl)<|.quiet (.p rfl) rfl (fun _=>.fieldAddr fF rfl)<|.quiet (.p rfl) rfl (fun _=>.loadAt eU rfl (e8.drop 3) rfl) ?_;refine .quiet (.p rfl) rfl (fun _=>.bE isAgg415 aa rfl e8) ?_;refine af.aC (.p rfl) aa rfl aa rfl rfl (uE (by first|assumption|exact ag.rel.mono zE hg)) ?_;rintro _ _ ⟨rfl,rfl⟩
    try simp only [an,aq,au]
    refine af.aC (.p rfl) aa rfl aa rfl rfl (Gi (iE x) rfl (by first|assumption|exact aj.mono hg zE|exact aj.left zE|exact aj.left (aj.mono hg zE))) ?_;rintro _ _ ⟨rfl,rfl⟩
    try simp only [an,aq,au]
    refine af.sT 29 rfl (by exact nw) ?_;refine af.q 1 rfl<|aJ.nil<|S.bx rfl<|S.seq<|S.region rfl<|O.q 1 rfl<|O.nil ?_;exact S.rt results332 rfl hR ⟨by rw [e],rfl⟩
   |false =>
    have e:shaped x=(decide (x.2.2.2.2.2.1.length≤1024) && (!x.2.2.2.2.1 ||decide (x.2.2.2.2.2.1.length=0))):=by unfold shaped;rw [decide_eq_true e1,decide_eq_true e2,ck,fm,nw];simp
    rw [e] at hR;clear e;refine S.seq<|S.region rfl<|O.aN (.p rfl) (.box (cs:=[_,_,_,_,_,_,_]) rfl rfl) ?_;rintro _ _ ⟨b1,rfl,rfl⟩;refine O.q 1 rfl<|O.nil<|S.seq<|S.block<|S.seq<|S.seq<|S.region rfl<|O.op (.p rfl) (.aH fG rfl)<|O.op (.p rfl) (.aH e6 rfl)<|O.op (.p rfl) (.lo bQ) ?_;refine O.op (.p rfl) (.c5 rfl underlying9 rfl)<|O.op (.p rfl) (.lss rfl rfl)<|O.aM 8 rfl b9 ?_;refine O.q 1 rfl<|O.nil<|S.aQ rfl<|S.seq<|S.region rfl<|O.op (.p rfl) (.aH fG rfl)<|O.op (.p rfl) (.aH e6 rfl)<|O.op (.p rfl) (.lo bQ) ?_;refine O.op (.p rfl) (.c5 rfl underlying9 rfl)<|O.op (.p rfl) (.gtr rfl rfl)<|O.aM 13 rfl b9 ?_;refine O.q 1 rfl<|O.nil<|S.aQ rfl<|S.seq<|S.region rfl<|O.op (.p rfl) (.gZ (news:=[_,_,_,_,_,_,_]) isAgg415) ?_;refine O.aC (.p rfl) rfl aa rfl rfl (uE (by first|assumption|exact ag.rel.mono zE hg)) ?_;rintro _ _ ⟨rfl,rfl⟩
    try simp only [an,aq,au]
    refine O.aN (.p rfl) (.cA (T:=c_) (ys:=[iE x]) underlying100 rL aB rfl rfl ⟨c_.mk k1 k2,trivial⟩ aB) ?_;rintro _ _ ⟨en,eo,rfl,rfl⟩;refine O.fo ai fun g hs hm tE=>?_;replace hg:=Fr.aI hg hs;replace hR:=bu hR hm
    try replace h:=h.mono hs
    try replace bk:=bk.mono hs
    try replace fM:=fM.mono hs
    try replace eL:=eL.mono hs
    clear hs hm;refine O.aC (.p rfl) rfl aa rfl rfl (qo (by first|assumption|exact aj.mono hg zE|exact aj.left zE|exact aj.left (aj.mono hg zE))) ?_;rintro _ _ ⟨rfl,rfl⟩
    try simp only [an,aq,au]
    refine O.sT 17 rfl (by rw [Ah,ck]) ?_;refine O.op (.p rfl) (.not rfl)<|O.q 1 rfl<|O.nil<|S.aQ rfl<|S.seq<|S.region rfl<|O.op (.p rfl) (.aH fG rfl)<|O.op (.p rfl) (.aH fF rfl)<|O.op (.p rfl) (.lo eU) ?_;refine O.aC (.p rfl) rfl aa rfl rfl (qo (by first|assumption|exact aj.mono hg zE|exact aj.left zE|exact aj.left (aj.mono hg zE))) ?_;rintro _ _ ⟨rfl,rfl⟩
    try simp only [an,aq,au]
    refine O.sT 22 rfl (by exact fm) ?_;refine O.op (.p rfl) (.not rfl)<|O.q 1 rfl<|O.nil<|S.aQ rfl<|S.de ai fun g hs hm e8=>?_;replace hg:=Fr.aI hg hs;replace hR:=bu hR hm
    try replace h:=h.mono hs
    try replace bk:=bk.mono hs
    try replace fM:=fM.mono hs
    try replace eL:=eL.mono hs
    try replace tE:=tE.mono hs
    clear hs hm;refine S.bC (L:=[0,1,2,3,4,5,6]) bz aa ?_;refine .quiet (.p rfl) rfl (fun _=>.fieldAddr fG rfl)<|.quiet (.p rfl) rfl (fun _=>.fieldAddr fF rfl)<|.quiet (.p rfl) rfl (fun _=>.loadAt eU rfl (e8.drop 3) rfl) ?_;refine .quiet (.p rfl) rfl (fun _=>.bE isAgg415 aa rfl e8) ?_;refine af.aC (.p rfl) aa rfl aa rfl rfl (uE (by first|assumption|exact ag.rel.mono zE hg)) ?_;rintro _ _ ⟨rfl,rfl⟩
    try simp only [an,aq,au]
    refine af.aC (.p rfl) aa rfl aa rfl rfl (Gi (iE x) rfl (by first|assumption|exact aj.mono hg zE|exact aj.left zE|exact aj.left (aj.mono hg zE))) ?_;rintro _ _ ⟨rfl,rfl⟩
    try simp only [an,aq,au]
    refine af.aM 29 rfl (by exact nw) ?_;refine af.q 1 rfl<|aJ.nil<|S.aQ rfl<|S.skip (S.inBlock (S.seq ?_))
    by_cases n6:1024<x.2.2.2.2.2.1.length
    ·
     refine S.region rfl<|O.op (.p rfl) (.fieldAddr fG rfl)<|O.op (.p rfl) (.fieldAddr gj rfl)<|O.op (.p rfl) (.loadAt bl rfl (e8.drop 5) rfl) ?_;refine O.op (.p rfl) (.len rfl underlying24 rfl)<|O.op (.p rfl) (.leq rfl rfl)<|O.aM 34 rfl b9 ?_;refine O.q 14 rfl<|O.nil ?_;exact S.rt results332 rfl hR ⟨by rw [decide_eq_false (show ¬ x.2.2.2.2.2.1.length≤1024 by omega)];rfl,rfl⟩
    have zq:x.2.2.2.2.2.1.length≤1024:=by omega
    cases zu:x.2.2.2.2.1 with
    |false =>
     refine S.region rfl<|O.op (.p rfl) (.fieldAddr fG rfl)<|O.op (.p rfl) (.fieldAddr gj rfl)<|O.op (.p rfl) (.loadAt bl rfl (e8.drop 5) rfl) ?_;refine O.op (.p rfl) (.len rfl underlying24 rfl)<|O.op (.p rfl) (.leq rfl rfl)<|O.sT 34 rfl b9 ?_;refine O.q 1 rfl<|O.op (.g rfl rfl) (.fieldAddr fG rfl)<|O.op (.g rfl rfl) (.fieldAddr vh rfl)<|O.op (.g rfl rfl) (.loadAt iv rfl (e8.drop 4) rfl) ?_;refine O.slot 38 (v' :=.bool false) rfl (by rw [zu]) ?_;refine O.op (.g rfl rfl) ((by first|exact .mg rfl|exact .not rfl)) ?_;refine O.sT 39 rfl aK ?_;refine O.q 9 rfl<|O.nil ?_;exact S.rt results332 rfl hR ⟨by rw [decide_eq_true zq,zu];rfl,rfl⟩
    |true =>
     refine S.region rfl<|O.op (.p rfl) (.fieldAddr fG rfl)<|O.op (.p rfl) (.fieldAddr gj rfl)<|O.op (.p rfl) (.loadAt bl rfl (e8.drop 5) rfl) ?_;refine O.op (.p rfl) (.len rfl underlying24 rfl)<|O.op (.p rfl) (.leq rfl rfl)<|O.sT 34 rfl b9 ?_;refine O.q 1 rfl<|O.op (.g rfl rfl) (.fieldAddr fG rfl)<|O.op (.g rfl rfl) (.fieldAddr vh rfl)<|O.op (.g rfl rfl) (.loadAt iv rfl (e8.drop 4) rfl) ?_;refine O.slot 38 (v' :=.bool true) rfl (by rw [zu]) ?_;refine O.op (.g rfl rfl) ((by first|exact .mg rfl|exact .not rfl)) ?_;refine O.aM 39 rfl aK ?_;refine O.q 1 rfl<|O.op (.g rfl rfl) (.fieldAddr fG rfl)<|O.op (.g rfl rfl) (.fieldAddr gj rfl)<|O.op (.g rfl rfl) (.loadAt bl rfl (e8.drop 5) rfl) ?_;refine O.op (.g rfl rfl) (.len rfl underlying24 rfl)<|O.op (.g rfl rfl) (.eql rfl rfl)<|O.q 3 rfl<|O.nil ?_;exact S.rt results332 rfl hR ⟨by rw [decide_eq_true zq,zu];simp,rfl⟩
end Go.Proofs.YtojafegjlahajaaGreatDoor
