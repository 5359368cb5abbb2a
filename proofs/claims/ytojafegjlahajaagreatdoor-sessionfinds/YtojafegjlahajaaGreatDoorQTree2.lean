/- Texts of this proof. -/
import Derived.Test.YtojafegjlahajaaGreatDoorQTjoin0
import Derived.Test.YtojafegjlahajaaGreatDoorQSpClone
open Go Go.Sp Go.Proofs.Tryz
set_option maxRecDepth 100000
set_option maxHeartbeats 1000000
attribute [local irreducible] obj Own av
namespace Go.Proofs.YtojafegjlahajaaGreatDoor
theorem US {s p:List UInt8}:decide ((str (s.take p.length)).toList=(str p).toList)=p.isPrefixOf s:=by
 by_cases h:p <+:s
 ·rw [List.isPrefixOf_iff_prefix.2 h]
  exact decide_eq_true (by rw [← List.prefix_iff_eq_take.1 h])
 ·rw [Bool.eq_false_iff.2 fun q=>h (List.isPrefixOf_iff_prefix.1 q)]
  exact decide_eq_false fun q=>h (List.prefix_iff_eq_take.2 (nV q).symm)
theorem UT {s p:List UInt8} (h:¬ p.length≤s.length):p.isPrefixOf s=false:=Bool.eq_false_iff.2 fun q=>h (List.isPrefixOf_iff_prefix.1 q).length_le
theorem Py {r:Fr} {s p:List UInt8} (hs:s.length≤9223372036854775807) (hp:p.length≤9223372036854775807):ay prog 162 #[.string (str s),.string (str p)] r [] (aL fun v U=>v=.bool (p.isPrefixOf s)∧U=[]):=by
 refine ay.of (n:=18) _ rfl func162 rfl rfl rfl fun g hg R hR=>?_
 by_cases h1:p.length≤s.length
 ·
  refine S.seq<|S.region rfl<|O.q 1 rfl<|O.nil<|S.seq<|S.region rfl<|O.q 1 rfl<|O.op (.p rfl) (.c5 rfl underlying9 rfl)<|O.q 1 rfl<|O.op (.p rfl) (.c5 rfl underlying9 rfl)<|O.op (.p rfl) (.geq rfl rfl)<|O.sT 9 rfl (by exact decide_eq_true b9) ?_;refine O.q 3 rfl<|O.op (.g rfl rfl) (.c5 rfl underlying9 rfl)<|O.slot 13 (v' :=.int .i64 (p.length:Int)) rfl bL ?_;refine O.uC (b:=p.length) (.g rfl rfl) underlying9 rfl rfl (show _=(((p.length):Nat):Int) by omega) bD ?_;refine O.q 1 rfl<|O.op (.g rfl rfl) (.kU rfl rfl)<|O.slot 16 (v' :=.bool (p.isPrefixOf s)) rfl (by exact congrArg Value.bool US) ?_;refine O.q 2 rfl<|O.nil ?_;exact S.rt results162 rfl hR ⟨rfl,rfl⟩
 ·have e:=UT h1
  refine S.seq<|S.region rfl<|O.q 1 rfl<|O.nil<|S.seq<|S.region rfl<|O.q 1 rfl<|O.op (.p rfl) (.c5 rfl underlying9 rfl)<|O.q 1 rfl<|O.op (.p rfl) (.c5 rfl underlying9 rfl)<|O.op (.p rfl) (.geq rfl rfl)<|O.aM 9 rfl (by exact decide_eq_false b9) ?_;refine O.q 9 rfl<|O.nil ?_;exact S.rt results162 rfl hR ⟨congrArg Value.bool e.symm,rfl⟩
theorem xe {r:Fr} {s p:List UInt8} (hs:s.length≤9223372036854775807) (hp:p.length≤9223372036854775807):ay prog 93 #[.string (str s),.string (str p)] r [] (aL fun v U=>v=.bool (p.isPrefixOf s)∧U=[]):=by
 refine ay.of (n:=8) _ rfl func93 rfl rfl rfl fun g hg R hR=>?_;refine S.seq<|S.region rfl<|O.q 1 rfl<|O.nil<|S.seq<|S.region rfl<|O.q 2 rfl<|O.aC (.p rfl) rfl aa rfl rfl ((Py bD bD)) ?_;rintro _ _ ⟨rfl,rfl⟩
 try simp only [an,aq,au]
 refine O.q 1 rfl<|O.nil ?_;exact S.rt results93 rfl hR ⟨rfl,rfl⟩
theorem Te {r:Fr} {s:List UInt8} (hs:s.length≤100000000000):ay prog 160 #[.string (str s)] r [] (aL fun v U=>v=.string (str s)∧U=[]):=by
 refine ay.of (n:=18) _ rfl func160 rfl rfl rfl fun g hg R hR=>?_
 by_cases h0:s.length=0
 ·have e:s=[]:=List.eq_nil_of_length_eq_zero h0
  refine S.seq<|S.region rfl<|O.q 1 rfl<|O.nil<|S.seq<|S.seq<|S.region rfl<|O.q 1 rfl<|O.op (.p rfl) (.c5 rfl underlying9 rfl)<|O.op (.p rfl) (.eql rfl rfl)<|O.sT 6 rfl (by exact decide_eq_true b9) ?_;refine O.nil<|S.bx rfl<|S.seq<|S.region rfl<|O.q 1 rfl<|O.nil ?_;exact S.rt results160 rfl hR ⟨by rw [e];rfl,rfl⟩
 ·
  refine S.seq<|S.region rfl<|O.q 1 rfl<|O.nil<|S.seq<|S.seq<|S.region rfl<|O.q 1 rfl<|O.op (.p rfl) (.c5 rfl underlying9 rfl)<|O.op (.p rfl) (.eql rfl rfl)<|O.aM 6 rfl (by exact decide_eq_false (by intro q;simp at q;exact h0 (by simp [q]))) ?_;refine O.nil<|S.aQ rfl<|S.skip<|S.seq<|S.region rfl<|O.q 1 rfl<|O.op (.p rfl) (.c5 rfl underlying9 rfl)<|O.slot 8 (v' :=.int .i64 (s.length:Int)) rfl bL ?_;refine O.aN (.p rfl) (.Az (T:=ag.u8) 0 (m:=s.length) underlying24 eT aB rfl rfl rfl rfl rfl ah ah) ?_;rintro _ _ ⟨a9,qy,rfl,rfl⟩;refine O.q 1 rfl<|O.nil<|S.seq<|S.region rfl<|O.q 2 rfl<|O.aN (.p rfl) (.NH (s:=s) underlying24 fO rfl rfl ai rfl bL ah) ?_;rintro _ _ ⟨rfl,rfl⟩;refine O.nil<|S.seq<|S.region rfl<|O.q 1 rfl<|O.aN (.p rfl) (.ox (T:=ag.u8) underlying24 fO rfl rfl (show _=(((0):Nat):Int) by omega) ai oL) ?_;rintro _ _ ⟨sw,rfl,kX,rfl⟩;refine O.q 1 rfl<|O.op (.p rfl) (.len rfl underlying24 rfl)<|O.aN (.p rfl) (.Bp (n:=s.length) underlying239 aa rfl kX rfl ai rfl ah) ?_;rintro _ _ ⟨rfl,rfl⟩;refine O.q 1 rfl<|O.nil ?_;exact S.rt results160 rfl hR ⟨rfl,rfl⟩
theorem Lf {r:Fr} {s:List UInt8} (hs:s.length≤100000000000):ay prog 91 #[.string (str s)] r [] (aL fun v U=>v=.string (str s)∧U=[]):=by
 refine ay.of (n:=5) _ rfl func91 rfl rfl rfl fun g hg R hR=>?_;refine S.seq<|S.region rfl<|O.q 1 rfl<|O.nil<|S.seq<|S.region rfl<|O.q 1 rfl<|O.aC (.p rfl) rfl aa rfl rfl ((Te bD)) ?_;rintro _ _ ⟨rfl,rfl⟩
 try simp only [an,aq,au]
 refine O.q 1 rfl<|O.nil ?_;exact S.rt results91 rfl hR ⟨rfl,rfl⟩
theorem AD {r:Fr} {s:List UInt8} (hl:s.length≤9223372036854775807):ay prog 94 #[.string (str s)] r [] (aL fun v U=>v=.bool (decide (gJ s))∧U=[]):=by
 refine ay.of (n:=11) _ rfl func94 rfl rfl rfl fun g hg R hR=>?_
 by_cases h1:s.length≤510
 ·by_cases h2:∀ c∈s,c=48∨c=49
  ·have e:decide (gJ s)=true:=decide_eq_true ⟨h1,h2⟩
   refine S.seq<|S.region rfl<|O.q 1 rfl<|O.nil<|S.seq<|S.region rfl<|O.q 1 rfl<|O.op (.p rfl) (.c5 rfl underlying9 rfl)<|O.op (.p rfl) (.leq rfl rfl)<|O.sT 5 rfl (by exact decide_eq_true b9) ?_;refine O.q 2 rfl<|O.aC (.g rfl rfl) rfl aa rfl rfl ((LV ah)) ?_;rintro L1 _ ⟨t,rfl,ht,rfl⟩
   try simp only [an,aq,au]
   refine O.op (.g rfl rfl) (.kU rfl rfl)<|O.sT 9 rfl (by rw [ht.2 h2];simp) ?_;refine O.q 2 rfl<|O.nil ?_;exact S.rt results94 rfl hR ⟨congrArg Value.bool e.symm,rfl⟩
  ·have e:decide (gJ s)=false:=decide_eq_false fun w=>h2 w.2
   refine S.seq<|S.region rfl<|O.q 1 rfl<|O.nil<|S.seq<|S.region rfl<|O.q 1 rfl<|O.op (.p rfl) (.c5 rfl underlying9 rfl)<|O.op (.p rfl) (.leq rfl rfl)<|O.sT 5 rfl (by exact decide_eq_true b9) ?_;refine O.q 2 rfl<|O.aC (.g rfl rfl) rfl aa rfl rfl ((LV ah)) ?_;rintro L1 _ ⟨t,rfl,ht,rfl⟩
   try simp only [an,aq,au]
   refine O.op (.g rfl rfl) (.kU rfl rfl)<|O.aM 9 rfl (by exact decide_eq_false (fun q=>h2 (ht.1 (nV q)))) ?_;refine O.q 2 rfl<|O.nil ?_;exact S.rt results94 rfl hR ⟨congrArg Value.bool e.symm,rfl⟩
 ·have e:decide (gJ s)=false:=decide_eq_false fun w=>h1 w.1
  refine S.seq<|S.region rfl<|O.q 1 rfl<|O.nil<|S.seq<|S.region rfl<|O.q 1 rfl<|O.op (.p rfl) (.c5 rfl underlying9 rfl)<|O.op (.p rfl) (.leq rfl rfl)<|O.aM 5 rfl (by exact decide_eq_false b9) ?_;refine O.q 6 rfl<|O.nil ?_;exact S.rt results94 rfl hR ⟨congrArg Value.bool e.symm,rfl⟩
theorem Xt {r:Fr}:ay prog 87 #[.pointer none] r [] (aL fun v U=>v=.bool false∧U=[]):=by
 refine ay.of (n:=12) _ rfl func87 rfl rfl rfl fun g hg R hR=>?_;refine S.seq<|S.region rfl<|O.q 1 rfl<|O.nil<|S.seq<|S.region rfl<|O.q 1 rfl<|O.op (.p rfl) (.x_ underlying42 rfl rfl)<|O.aM 4 rfl aK ?_;refine O.q 8 rfl<|O.nil ?_;exact S.rt results87 rfl hR ⟨rfl,rfl⟩
theorem qm {r:Fr} {b s:Nat} {L:List aD} (h:kr r b s L):ay prog 87 #[.pointer (some ⟨b,0,none⟩)] r [] (aL fun v U=>v=.bool true∧U=[]):=by
 obtain ⟨cS,cT,cF,cG,mid,h,_,_⟩:=h;refine ay.of (n:=12) _ rfl func87 rfl rfl rfl fun g hg R hR=>?_;have h:=h.mono hg;refine S.seq<|S.region rfl<|O.q 1 rfl<|O.nil<|S.seq<|S.region rfl<|O.q 1 rfl<|O.op (.p rfl) (.x_ underlying42 rfl rfl)<|O.sT 4 rfl aK ?_;refine O.q 2 rfl<|O.op (.g rfl rfl) (.nilCheck rfl)<|O.op (.g rfl rfl) (.fieldAddr p5 rfl)<|O.op (.g rfl rfl) (.loadAt lW rfl (h.drop 3) rfl) ?_;refine O.op (.g rfl rfl) (.TT underlying75 rfl rfl)<|O.sT 10 rfl aK ?_;refine O.q 2 rfl<|O.nil ?_;exact S.rt results87 rfl hR ⟨rfl,rfl⟩
theorem yB {r:Fr} {b s:Nat} {L:List aD} (h:kr r b s L):ay prog 47 #[.pointer (some ⟨b,0,none⟩)] r [] (aL fun v U=>v=.int .i64 (s:Int)∧U=[]):=by
 have h0:=h;obtain ⟨cS,cT,cF,cG,mid,h,_,_⟩:=h;refine ay.of (n:=10) _ rfl func47 rfl rfl rfl fun g hg R hR=>?_;have h:=h.mono hg;have h0:=h0.mono hg;refine S.seq<|S.region rfl<|O.q 1 rfl<|O.nil<|S.seq<|S.seq<|S.region rfl<|O.q 1 rfl<|O.aC (.p rfl) rfl aa rfl rfl ((qm h0)) ?_;rintro _ _ ⟨rfl,rfl⟩
 try simp only [an,aq,au]
 refine O.sT 4 rfl aK ?_;refine O.op (.p rfl) (.not rfl)<|O.nil<|S.aQ rfl<|S.skip<|S.seq<|S.region rfl<|O.q 1 rfl<|O.op (.p rfl) (.nilCheck rfl)<|O.op (.p rfl) (.fieldAddr vj rfl)<|O.op (.p rfl) (.loadAt cz rfl (h.drop 2) rfl) ?_;refine O.q 1 rfl<|O.nil ?_;exact S.rt results47 rfl hR ⟨rfl,rfl⟩
theorem GV {r:Fr} {b s:Nat} {L:List aD} (h:kr r b s L) (hl:L.length≤10000000):ay prog 98 #[.pointer (some ⟨b,0,none⟩)] r [] (aL fun v U=>∃ a c,v=.slice a L.length c∧U=[av ag.nat 3 (.slice a L.length c) (List.range L.length)]):=by
 obtain ⟨cS,cT,cF,cG,mid,h,hL,_⟩:=h;have hb:=hL.bound;refine ay.of (n:=22) _ rfl func98 rfl rfl rfl fun g hg R hR=>?_;have h:=h.mono hg;have hL:=hL.mono hg;refine S.seq<|S.region rfl<|O.q 1 rfl<|O.nil<|S.seq<|S.region rfl<|O.q 1 rfl<|O.op (.p rfl) (.nilCheck rfl)<|O.op (.p rfl) (.fieldAddr gG rfl)<|O.op (.p rfl) (.loadAt dV rfl h rfl) ?_;refine O.op (.p rfl) (.len rfl underlying25 rfl)<|O.aN (.p rfl) (.Az (T:=ag.nat) 0 (m:=L.length) underlying104 wT aB ⟨rfl,(⟨by decide,by decide⟩:cK ((0:Nat):Int))⟩ rfl rfl rfl rfl ah ah) ?_;rintro _ _ ⟨oO,oU,rfl,rfl⟩;refine O.q 1 rfl<|O.nil<|S.seq<|S.seq<|S.region rfl<|O.q 1 rfl<|O.op (.p rfl) (.len rfl underlying104 rfl)<|O.q 1 rfl<|O.nil<|S.block<|S.jd (T:=ag.nat) (e:=3) (v' :=.slice oO L.length oU) (xs' :=List.range 0++List.replicate (L.length - 0) 0) ai rfl bL ?_;refine S.eM (ι:=Nat) (fun i=>i≤L.length) (fun i=>[(13,.int .i64 (i:Int))]) [(3,_),(12,_)] (fun i=>[av ag.nat 3 (.slice oO L.length oU) (List.range i++List.replicate (L.length - i) 0)]) (fun i=>L.length - i) (0) bL (.cons rfl (.nil)) (.cons rfl (.cons rfl (.nil))) rfl fun i hx ih=>?_;have bh:=cH (g:=g);refine S.seq<|S.region rfl<|O.op (.p rfl) (.lss rfl rfl)<|O.nil (S.seq ?_)
 first|refine S.cm rfl (fun e_=>?_) (fun e_=>?_)|refine S.b_ rfl (fun e_=>?_) (fun e_=>?_)
 ·have hi:i<L.length:=by omega
  have e:(List.range i++List.replicate (L.length - i) 0).set i i=List.range (i+1)++List.replicate (L.length - (i+1)) 0:=by
   rw [show L.length - i=(L.length - (i+1))+1 by omega,List.replicate_succ,List.set_append_right _ _ bL,List.range_succ]
   simp
  refine S.skip<|S.seq<|S.block<|S.seq<|S.region rfl<|O.q 2 rfl<|O.nil<|S.region rfl<|O.q 3 rfl<|O.aN (.p rfl) (.ox (T:=ag.nat) underlying104 sH rfl rfl (show _=(((i):Nat):Int) by omega) ai oL) ?_;rintro _ _ ⟨sx,rfl,j8,rfl⟩;refine O.bB rfl (.ru sH rfl j8 rfl ai oL (by exact ⟨rfl,(⟨by omega,by omega⟩:cK ((i:Nat):Int))⟩:ag.rel _ _ _ (i))) ?_;refine O.nil<|S.inBlock<|S.region rfl<|O.op (.p rfl) (.add rfl rfl (IntWalk.i64_in _ ah))<|O.q 1 rfl<|O.nil ?_;rw [e];exact S.dD (ih (i+1) ah ah)
 ·clear ih
  have hi:i=L.length:=by omega
  subst hi;rw [Nat.sub_self,List.replicate_zero,List.append_nil];refine S.exit rfl<|S.seq<|S.region rfl<|O.q 2 rfl<|O.nil ?_;exact S.rt results98 rfl hR ⟨oO,oU,rfl,rfl⟩
theorem Gg {r:Fr} {b s:Nat} {L:List aD} {p:List UInt8} {va:Value} {a:List Nat} (h:kr r b s L) (ha:aj ag.nat r va a) (dg:∀ i∈a,i<L.length) (hp:p.length≤9223372036854775807) (hal:a.length≤10000000) :
  ay prog 97 #[.pointer (some ⟨b,0,none⟩),.string (str p),va] r [] (aL fun v U=>∃ a1 c1,v=.slice a1 (fC L p a).length c1∧U=[av ag.nat 3 (.slice a1 (fC L p a).length c1) (fC L p a)]):=by
 obtain ⟨cS,cT,cF,cG,mid,h,hL,hW⟩:=h;have hbd:=ha.bound;obtain ⟨a1,c1,rfl⟩:=ha.shape;refine ay.of (n:=31) _ rfl func97 rfl rfl rfl fun g hg R hR=>?_;have h:=h.mono hg;have hL:=hL.mono hg;have hW:=hW.mono hg;have ha:=ha.mono hg;refine S.gd (T:=ag.nat) (e:=3) ?_;refine S.seq<|S.region rfl<|O.q 1 rfl<|O.nil<|S.seq<|S.region rfl<|O.q 1 rfl<|O.nil<|S.seq<|S.seq<|S.region rfl<|O.q 1 rfl<|O.op (.p rfl) (.len rfl underlying104 rfl)<|O.q 1 rfl<|O.nil<|S.block<|S.jO (ι:=Nat) (dJ:=Option Addr × Nat) (fun k u=>k≤a.length) (fun k u=>[(12,.int .i64 (k:Int)),(7,.slice u.1 (fC L p (a.take k)).length u.2)]) [(0,_),(1,_),(10,_),(11,_)] (fun k u=>[av ag.nat 3 (.slice u.1 (fC L p (a.take k)).length u.2) (fC L p (a.take k))]) (fun k u=>a.length - k) (0) ((none,0)) bL (.cons rfl (.cons rfl (.nil))) (.cons rfl (.cons rfl (.cons rfl (.cons rfl (.nil))))) rfl fun k u hx ih=>?_;have bh:=cH (g:=g);refine S.seq<|S.region rfl<|O.op (.p rfl) (.lss rfl rfl)<|O.nil (S.seq ?_)
 first|refine S.cm rfl (fun iU=>?_) (fun iU=>?_)|refine S.b_ rfl (fun iU=>?_) (fun iU=>?_)
 ·have hk:k<a.length:=by omega
  have hi:=dg _ (List.getElem_mem hk);have eW:=X8 (L:=L) (p:=p) hk dg;have ov:=Bo L p (a.take k);have jx:(a.take k).length≤k:=by simp;omega
  have hml:(L.map fun x=>bq x.1).length=L.length:=List.length_map ..;have DP:cK ((a[k]:Nat):Int):=⟨by omega,by have:=hL.bound;omega⟩
  by_cases q:p.isPrefixOf (bq (L[a[k]]'hi).1)=true
  ·rw [if_pos q] at eW
   refine S.skip<|S.seq<|S.block<|S.seq<|S.region rfl<|O.bR (.p rfl) underlying104 sH rfl rfl rfl (by first|assumption|exact aj.mono hg zE|exact aj.left zE|exact aj.left (aj.mono hg zE)) (h:=fun sw s9 kX kY=>?_);obtain ⟨rfl,RA⟩:=kY;refine O.op (.p rfl) (.loadAt cz rfl kX rfl) ?_;refine O.slot 15 (v' :=.int .i64 ((a[k]:Nat):Int)) rfl aK ?_;refine O.q 1 rfl<|O.nil<|S.seq<|S.region rfl<|O.q 1 rfl<|O.op (.p rfl) (.nilCheck rfl)<|O.op (.p rfl) (.fieldAddr jJ rfl)<|O.op (.p rfl) (.loadAt e9 rfl (h.drop 1) rfl) ?_;refine O.q 1 rfl<|O.bR (.p rfl) underlying53 gb rfl rfl (show _=(((a[k]):Nat):Int) by omega) (by first|assumption|exact aj.mono hg zE|exact aj.left zE|exact aj.left (aj.mono hg zE)) (h:=fun AP zk qS pq=>?_);obtain ⟨rfl,RC⟩:=pq;refine O.op (.p rfl) (.loadAt bQ rfl qS rfl) ?_;refine O.slot 22 (v' :=.string (str (bq (L[a[k]]'hi).1))) rfl (by rw [List.getElem_map]) ?_;refine O.q 1 rfl<|O.aC (.p rfl) rfl aa rfl rfl ((xe bL hp)) ?_;rintro _ _ ⟨rfl,rfl⟩
   try simp only [an,aq,au]
   refine O.sT 24 rfl (by exact q) ?_;refine O.nil<|S.bx rfl<|S.region rfl<|O.q 2 rfl<|O.aN (.p rfl) (.cA (T:=ag.nat) (ys:=[a[k]]) underlying104 wT aB rfl rfl ⟨⟨rfl,DP⟩,trivial⟩ aB) ?_;rintro _ _ ⟨a27,s7,rfl,rfl⟩;refine O.aN (.p rfl) (.gN (T:=ag.nat) underlying104 wT aB rfl rfl ai ai bD bD) ?_;rintro _ _ ⟨a28,s8,rfl,rfl⟩;refine O.q 1 rfl<|O.nil<|S.inBlock<|S.region rfl<|O.op (.p rfl) (.add rfl rfl (IntWalk.i64_in _ ah))<|O.q 1 rfl<|O.nil ?_;rw [← eW];rw [show (fC L p (a.take k)).length+[a[k]].length=(fC L p (a.take (k+1))).length from by rw [eW];simp];exact S.pw (ih (k+1) ((a28,s8)) ah ah)
  ·rw [if_neg q] at eW
   refine S.skip<|S.seq<|S.block<|S.seq<|S.region rfl<|O.bR (.p rfl) underlying104 sH rfl rfl rfl (by first|assumption|exact aj.mono hg zE|exact aj.left zE|exact aj.left (aj.mono hg zE)) (h:=fun sw s9 kX kY=>?_);obtain ⟨rfl,RA⟩:=kY;refine O.op (.p rfl) (.loadAt cz rfl kX rfl) ?_;refine O.slot 15 (v' :=.int .i64 ((a[k]:Nat):Int)) rfl aK ?_;refine O.q 1 rfl<|O.nil<|S.seq<|S.region rfl<|O.q 1 rfl<|O.op (.p rfl) (.nilCheck rfl)<|O.op (.p rfl) (.fieldAddr jJ rfl)<|O.op (.p rfl) (.loadAt e9 rfl (h.drop 1) rfl) ?_;refine O.q 1 rfl<|O.bR (.p rfl) underlying53 gb rfl rfl (show _=(((a[k]):Nat):Int) by omega) (by first|assumption|exact aj.mono hg zE|exact aj.left zE|exact aj.left (aj.mono hg zE)) (h:=fun AP zk qS pq=>?_);obtain ⟨rfl,RC⟩:=pq;refine O.op (.p rfl) (.loadAt bQ rfl qS rfl) ?_;refine O.slot 22 (v' :=.string (str (bq (L[a[k]]'hi).1))) rfl (by rw [List.getElem_map]) ?_;refine O.q 1 rfl<|O.aC (.p rfl) rfl aa rfl rfl ((xe bL hp)) ?_;rintro _ _ ⟨rfl,rfl⟩
   try simp only [an,aq,au]
   refine O.aM 24 rfl (by exact Bool.eq_false_iff.2 q) ?_;refine O.nil<|S.aQ rfl<|S.skip<|S.inBlock<|S.region rfl<|O.op (.p rfl) (.add rfl rfl (IntWalk.i64_in _ ah))<|O.q 1 rfl<|O.nil ?_;rw [← eW];exact S.pw (ih (k+1) (u) ah ah)
 ·clear ih
  have hk:k=a.length:=by omega
  subst hk;rw [List.take_length];refine S.exit rfl<|S.seq<|S.region rfl<|O.q 2 rfl<|O.nil ?_;exact S.rt results97 rfl hR ⟨u.1,u.2,rfl,rfl⟩
end Go.Proofs.YtojafegjlahajaaGreatDoor
