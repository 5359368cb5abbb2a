/- Texts of this proof. -/
import Derived.Test.YtojafegjlahajaaGreatDoorQMerk2
open Go Go.Sp Go.Proofs.Tryz
set_option maxRecDepth 100000
set_option maxHeartbeats 1000000
attribute [local irreducible] obj Own av
namespace Go.Proofs.YtojafegjlahajaaGreatDoor
theorem vS {α:Type} {T:ag α} {e:TypeId} {v:Value} {xs:List α} {m:Fr} (h:Sat [av T e v xs] m):aj T m v xs:=by
 obtain ⟨m1,_,_,s1,_,o,_⟩:=h;exact (av.arr o).mono s1
theorem Oc {α:Type} {T:ag α} {e:TypeId} {vs:List Value} {xs:List (List α)} {m k:Fr} (s:m.sub k) (x:bX (av T e) vs xs m):b5 (aj T k) vs xs:=bX.sZ (R:=fun v a=>aj T k v a) (fun _ _ _ z w=>aj.mono w (av.arr z)) x s
theorem Od {β α:Type} {A:β→α→az} {bs:List β} {ys:List α} {b1 b2:β} {a1 a2:α} {m:Fr} (st:Sat [bX A bs ys,A b1 a1,A b2 a2] m):bX A (bs++[b1,b2]) (ys++[a1,a2]) m:=by
 obtain ⟨h1,h2,d,s1,s2,x,y⟩:=st;exact bX.app ⟨h1,h2,d,s1,s2,x,h2,Fr.emp,Fr.e5 (Fr.ea _),Fr.bY _,Fr.c6 _,bX.Fm (A:=A) (bs:=[b1,b2]) rfl y,trivial⟩
theorem T3 {k:UInt8} (h:k.toNat<5):bK ([0,0,1,2,3]:List UInt8)[k.toNat]=bK (yc k):=by
 unfold yc;rw [List.getD_eq_getElem?_getD,List.getElem?_eq_getElem (show k.toNat<([0,0,1,2,3]:List UInt8).length from h)]
 rfl
theorem Kl {r:Fr} {cs:List Value} {x:ed} (h:jV.rel r cs x) (hx0:x.2.1.length≤1000000000000∧x.2.2.1.length≤1000000000000) (hx2:x.2.2.2.1.length≤10000000∧∀ y∈x.2.2.2.1,y.2.1.length≤10000000) (hH:At r ⟨0,0,none⟩ (bW ev)) (hK:At r ⟨1,0,none⟩ (bW gq)) :
  ay prog 22 #[.agg cs.toArray] r [] (aL fun v U=>∃ a c,v=.slice a (iB x).length c∧U=[av ag.u8 5 (.slice a (iB x).length c) (iB x)]):=by
 have h0:=h;obtain ⟨a1,a2,a3,c1,c2,c3,rfl,k1,k2,bk⟩:=jV.sh h;refine ay.of (n:=40) _ rfl func22 rfl rfl rfl fun g hg R hR=>?_;have h:=h.mono hg;have h0:=h0.mono hg;have k1:=k1.mono hg;have k2:=k2.mono hg;have bk:=bk.mono hg;have hH:=hH.mono hg;have hK:=hK.mono hg;have hb:=bk.bound;refine S.seq<|S.region rfl<|O.aN (.p rfl) (.box (cs:=[_,_,_,_]) rfl rfl) ?_;rintro _ _ ⟨b1,rfl,rfl⟩;refine O.q 1 rfl<|O.nil<|S.seq<|S.seq<|S.dx (b:=b1) (cs' :=[bK x.1,.slice a1 x.2.1.length c1,.slice a2 x.2.2.1.length c2,.slice a3 x.2.2.2.1.length c3]) ai rfl ?_;refine S.de ai fun g hs hm h1=>?_;replace hg:=Fr.aI hg hs;replace hR:=bu hR hm
 try replace h:=h.mono hs
 try replace h0:=h0.mono hs
 try replace k1:=k1.mono hs
 try replace k2:=k2.mono hs
 try replace bk:=bk.mono hs
 try replace hH:=hH.mono hs
 try replace hK:=hK.mono hs
 clear hs hm
 by_cases e:gB x
 ·have DU:=T5 e
  have hkeys:∀ y∈x.2.2.2.1,y.1.length≤64:=fun y hy=>(e.1.1 y hy).1.2;have gl:x.2.1.length≤64∧x.2.2.1.length≤64:=by rcases e.2 with q|q|q|q;rw [q.2.1,q.2.2.1];decide;rw [q.2.1,q.2.2.1];decide;omega;rw [q.2.1,q.2.2.1];decide
  refine S.region rfl<|O.op (.p rfl) (.bE isAgg27 aa rfl h1) ?_;refine O.aC (.p rfl) rfl aa rfl rfl ((Ka h0 hx0 (fun y hy=>by have:=hx2.2 y hy;omega))) ?_;rintro _ _ ⟨rfl,rfl⟩
  try simp only [an,aq,au]
  refine O.sT 7 rfl (by exact decide_eq_true e) ?_;refine O.op (.p rfl) (.not rfl)<|O.nil<|S.aQ rfl<|S.skip<|S.seq<|S.bC (L:=[1,2,6,7,8,9,0,3,4,5,10,11]) bz aa ?_;refine .quiet (.p rfl) rfl (fun _=>.fieldAddr eR rfl)<|.quiet (.p rfl) rfl (fun _=>.loadAt eP rfl h1 rfl) ?_;refine .quiet (.p rfl) rfl (fun _=>.fieldAddr nC rfl)<|.quiet (.p rfl) rfl (fun _=>.loadAt bl rfl (h1.drop 1) rfl) ?_;refine .quiet (.p rfl) rfl (fun _=>.fieldAddr nD rfl)<|.quiet (.p rfl) rfl (fun _=>.loadAt bl rfl (h1.drop 2) rfl) ?_;refine af.cA (T:=ag.u8) (ys:=[0,0,1,2,3]) (.p rfl) aa underlying24 eT aB rfl rfl ⟨rfl,rfl,rfl,rfl,rfl,trivial⟩ aB (fun a9 qy=>?_);refine af.ox (T:=ag.u8) (e:=5) (v:=.slice a9 5 qy) (xs:=[0,0,1,2,3]) (j:=x.1.toNat) (.p rfl) aa underlying24 fO rfl rfl rfl ai DU (fun KC fL=>?_);refine af.cC (.p rfl) aa (fun _=>.J1 (T:=ag.u8) (xs:=[0,0,1,2,3]) (j:=x.1.toNat) lq rfl fL rfl ai DU (by rintro _ rfl;exact congrArg (fun v=>[v]) (T3 DU))) ?_;refine af.cA (.p rfl) aa (T:=ag.u8) (ys:=[yc x.1]) underlying24 eT aB rfl rfl ⟨rfl,trivial⟩ aB (fun nY oa=>?_)
  refine af.cA (.p rfl) aa (T:=ag.val) (ys:=[.slice nY 1 oa,.slice a1 x.2.1.length c1,.slice a2 x.2.2.1.length c2]) underlying109 iu aB rfl rfl ⟨⟨rfl,rfl⟩,⟨rfl,rfl⟩,⟨rfl,rfl⟩,trivial⟩ aB (fun yW y8=>?_);refine af.q 1 rfl<|aJ.nil<|S.seq<|S.seq<|S.ep (A:=av ag.u8 5 (.slice nY 1 oa) [yc x.1]) ai fun g hs hm ⟨_,x',s'⟩=>?_;have ht:=(fun s x=>aj.mono s (av.arr x)) s' x';clear x' s';replace hg:=Fr.aI hg hs;replace hR:=bu hR hm
  try replace h:=h.mono hs
  try replace h0:=h0.mono hs
  try replace k1:=k1.mono hs
  try replace k2:=k2.mono hs
  try replace bk:=bk.mono hs
  try replace hH:=hH.mono hs
  try replace hK:=hK.mono hs
  try replace h1:=h1.mono hs
  clear hs hm;refine S.ep (A:=av ag.u8 5 (.slice a9 5 qy) [0,0,1,2,3]) ai fun g hs hm ⟨_,x',s'⟩=>?_;have h9:=(fun s x=>aj.mono s (av.arr x)) s' x';clear x' s';replace hg:=Fr.aI hg hs;replace hR:=bu hR hm
  try replace h:=h.mono hs
  try replace h0:=h0.mono hs
  try replace k1:=k1.mono hs
  try replace k2:=k2.mono hs
  try replace bk:=bk.mono hs
  try replace hH:=hH.mono hs
  try replace hK:=hK.mono hs
  try replace h1:=h1.mono hs
  try replace ht:=ht.mono hs
  clear hs hm;refine S.ct (A:=bX (av ag.u8 5) [] (pI (x.2.2.2.1.take 0))) (bs:=[]) .nil (fun m _=>trivial) ?_;refine S.region rfl<|O.op (.p rfl) (.fieldAddr nE rfl)<|O.op (.p rfl) (.loadAt dV rfl (h1.drop 3) rfl) ?_;refine O.op (.p rfl) (.len rfl underlying25 rfl)<|O.q 1 rfl<|O.nil<|S.block<|S.Ax (ι:=Nat) (dJ:=Option Addr × Nat) (jC:=List Value) (fun k s vs=>k≤x.2.2.2.1.length∧vs.length=2*k) (fun k s vs=>[(23,.int .i64 (k:Int)),(3,.slice s.1 (3+2*k) s.2)]) [(21,_),(22,_)] (fun k s vs=>[bX (av ag.u8 5) vs (pI (x.2.2.2.1.take k)),av ag.val 24 (.slice s.1 (3+2*k) s.2) ([.slice nY 1 oa,.slice a1 x.2.1.length c1,.slice a2 x.2.2.1.length c2]++vs)]) (fun k s vs=>x.2.2.2.1.length - k) (0) ((yW,y8)) ([]) (by exact ⟨by omega,rfl⟩) (.cons rfl (.cons rfl (.nil))) (.cons rfl (.cons rfl (.nil))) rfl fun k s vs hx ih=>?_;have bh:=cH (g:=g);obtain ⟨hx1,hvl⟩:=hx;refine S.seq<|S.region rfl<|O.op (.p rfl) (.lss rfl rfl)<|O.nil (S.seq ?_)
  first|refine S.cm rfl (fun iW=>?_) (fun iW=>?_)|refine S.b_ rfl (fun iW=>?_) (fun iW=>?_)
  ·have hk:k<x.2.2.2.1.length:=by omega
   have pH:=hx2.2 _ (List.getElem_mem hk);have hkey:=hkeys _ (List.getElem_mem hk);have eW:=Tn hk;refine S.skip<|S.seq<|S.block<|S.seq<|S.region rfl<|O.bR (.p rfl) underlying25 cQ rfl rfl rfl (bk) (h:=fun UD NO tP Ew=>?_);obtain ⟨l1,m1,rfl,l2,l3⟩:=bP.sh Ew;have l3:=l3;refine O.op (.p rfl) (.bE isAgg31 aa rfl tP) ?_;refine O.aN (.p rfl) (.alloc (cs:=[.string ⟨#[]⟩,.slice none 0 0]) zeroValue31 rfl) ?_;rintro _ _ ⟨iN,rfl,rfl⟩;refine O.bB rfl (.c9 aa rfl rfl rfl rfl ai aX) ?_;refine O.nil ?_;generalize x.2.2.2.1[k]=y at *;refine S.dx (b:=iN) (cs' :=[.string (str y.1),.slice l1 y.2.1.length m1]) ai rfl ?_;refine S.de ai fun g hs hm h5=>?_;replace hg:=Fr.aI hg hs;replace hR:=bu hR hm
   try replace h:=h.mono hs
   try replace h0:=h0.mono hs
   try replace k1:=k1.mono hs
   try replace k2:=k2.mono hs
   try replace bk:=bk.mono hs
   try replace hH:=hH.mono hs
   try replace hK:=hK.mono hs
   try replace h1:=h1.mono hs
   try replace ht:=ht.mono hs
   try replace h9:=h9.mono hs
   try replace tP:=tP.mono hs
   try replace l3:=l3.mono hs
   replace bh:=dQ bh hm;clear hs hm;refine S.bC (L:=[0,1,2,5,6,3,4,7,8,9,10]) bz aa ?_;refine af.q 1 rfl<|.quiet (.p rfl) rfl (fun _=>.fieldAddr ef rfl)<|.quiet (.p rfl) rfl (fun _=>.loadAt bQ rfl h5 rfl) ?_;refine .quiet (.p rfl) rfl (fun _=>.fieldAddr eA rfl)<|.quiet (.p rfl) rfl (fun _=>.loadAt dO rfl (h5.drop 1) rfl) ?_;refine af.pS (.p rfl) aa underlying9 underlying24 underlying5 rfl (by first|assumption|omega|(simp;done)|(simp;omega)) (fun BZ Cd=>?_);refine af.c4 (.p rfl) aa rfl aa rfl rfl (bs:=[av ag.u8 5 (.slice BZ y.1.length Cd) y.1]) aW (fun m hm hd=>v_ ((vS hm).right hd) ah) ?_;rintro _ _ ⟨a31,iq,rfl,rfl⟩
   try simp only [an,aq,au]
   refine af.aC (.p rfl) aa rfl aa rfl rfl ((WS l3 hH hK pH)) ?_;rintro _ _ ⟨uW,u4,rfl,rfl⟩
   try simp only [an,aq,au]
   refine af.cA (.p rfl) aa (T:=ag.val) (ys:=[.slice a31 (bytesOf y.1).length iq,.slice uW (hG y.2.1).length u4]) underlying109 iu aB rfl rfl ⟨⟨rfl,rfl⟩,⟨rfl,rfl⟩,trivial⟩ aB (fun a35 Ce=>?_);refine af.gN (.p rfl) aa (T:=ag.val) underlying109 iu aB rfl rfl ai ai bD bD (fun a36 Cf=>?_);refine af.q 1 rfl<|aJ.nil<|S.inBlock<|S.ct (A:=bX (av ag.u8 5) (vs++[.slice a31 (bytesOf y.1).length iq,.slice uW (hG y.2.1).length u4]) (pI (x.2.2.2.1.take (k+1)))) (bs:=[bX (av ag.u8 5) vs (pI (x.2.2.2.1.take k)),av ag.u8 5 (.slice a31 (bytesOf y.1).length iq) (bytesOf y.1),av ag.u8 5 (.slice uW (hG y.2.1).length u4) (hG y.2.1)]) aW (fun m st=>by rw [← eW];exact Od st) ?_;refine S.ep (A:=av ag.u8 5 (.slice BZ y.1.length Cd) y.1) ai fun g hs hm ⟨_,x',s'⟩=>?_;have ZH:=(fun s x=>aj.mono s (av.arr x)) s' x';clear x' s';replace hg:=Fr.aI hg hs;replace hR:=bu hR hm
   try replace h:=h.mono hs
   try replace h0:=h0.mono hs
   try replace k1:=k1.mono hs
   try replace k2:=k2.mono hs
   try replace bk:=bk.mono hs
   try replace hH:=hH.mono hs
   try replace hK:=hK.mono hs
   try replace h1:=h1.mono hs
   try replace ht:=ht.mono hs
   try replace h9:=h9.mono hs
   try replace tP:=tP.mono hs
   try replace l3:=l3.mono hs
   try replace h5:=h5.mono hs
   replace bh:=dQ bh hm;clear hs hm;refine S.jd (T:=ag.val) (e:=24) (v' :=.slice a36 (3+2*(k+1)) Cf) (xs' :=[.slice nY 1 oa,.slice a1 x.2.1.length c1,.slice a2 x.2.2.1.length c2]++(vs++[.slice a31 (bytesOf y.1).length iq,.slice uW (hG y.2.1).length u4])) ai (by congr 1;simp only [List.length_cons,List.length_nil,hvl];omega) bL ?_;refine S.slot 3 (v' :=.slice a36 (3+2*(k+1)) Cf) rfl (by congr 1;simp only [List.length_cons,List.length_nil,hvl];omega) ?_;refine S.region rfl<|O.op (.p rfl) (.add rfl rfl (IntWalk.i64_in _ ah))<|O.q 1 rfl<|O.nil ?_;exact S.iA bh (S.pw (ih (k+1) ((a36,Cf)) ((vs++[.slice a31 (bytesOf y.1).length iq,.slice uW (hG y.2.1).length u4])) (by exact ⟨by omega,by rw [List.length_append,hvl];simp only [List.length_cons,List.length_nil];omega⟩) ah))
  ·clear ih
   have hk:k=x.2.2.2.1.length:=by omega
   subst hk;rw [List.take_length];refine S.exit rfl<|S.seq<|S.fo ai fun g hs hm hpv=>?_;replace hg:=Fr.aI hg hs;replace hR:=bu hR hm
   try replace h:=h.mono hs
   try replace h0:=h0.mono hs
   try replace k1:=k1.mono hs
   try replace k2:=k2.mono hs
   try replace bk:=bk.mono hs
   try replace hH:=hH.mono hs
   try replace hK:=hK.mono hs
   try replace h1:=h1.mono hs
   try replace ht:=ht.mono hs
   try replace h9:=h9.mono hs
   replace bh:=dQ bh hm;clear hs hm;refine S.ep (A:=bX (av ag.u8 5) vs (pI x.2.2.2.1)) ai fun g hs hm ⟨_,x',s'⟩=>?_;have he:=Oc s' x';clear x' s';replace hg:=Fr.aI hg hs;replace hR:=bu hR hm
   try replace h:=h.mono hs
   try replace h0:=h0.mono hs
   try replace k1:=k1.mono hs
   try replace k2:=k2.mono hs
   try replace bk:=bk.mono hs
   try replace hH:=hH.mono hs
   try replace hK:=hK.mono hs
   try replace h1:=h1.mono hs
   try replace ht:=ht.mono hs
   try replace h9:=h9.mono hs
   try replace hpv:=hpv.mono hs
   replace bh:=dQ bh hm;clear hs hm;have hpa:aj (ag.slice ag.u8) g.h (.slice s.1 (3+2*x.2.2.2.1.length) s.2) (yb x):=aj.rows hpv ⟨ht,k1,k2,he⟩;have fI:=JR x.2.2.2.1 hkeys;have hfl:(yb x).flatten.length≤10000000000:=by unfold yb;simp only [List.flatten_append,List.flatten_cons,List.flatten_nil,List.length_append,List.length_cons,List.length_nil];omega
   refine S.region rfl<|O.q 1 rfl<|O.aC (.p rfl) rfl aa rfl rfl ((yz hpa hH hK ah)) ?_;rintro _ _ ⟨a39,Cg,rfl,rfl⟩
   try simp only [an,aq,au]
   refine O.q 1 rfl<|O.nil ?_;have e1:=Kk e;have e2:(iB x).length=64:=(AF x).2 e;refine S.jd (T:=ag.u8) (e:=5) (v' :=.slice a39 (iB x).length Cg) (xs' :=iB x) ai (by rw [e2]) e1.symm ?_;exact S.rt results22 rfl hR ⟨a39,Cg,by rw [e2],rfl⟩
 ·have e1:=Kj e
  refine S.region rfl<|O.op (.p rfl) (.bE isAgg27 aa rfl h1) ?_;refine O.aC (.p rfl) rfl aa rfl rfl ((Ka h0 hx0 (fun y hy=>by have:=hx2.2 y hy;omega))) ?_;rintro _ _ ⟨rfl,rfl⟩
  try simp only [an,aq,au]
  refine O.aM 7 rfl (by exact decide_eq_false e) ?_;refine O.op (.p rfl) (.not rfl)<|O.nil<|S.bx rfl<|S.seq<|S.region rfl<|O.q 1 rfl<|O.nil<|S.gd (T:=ag.u8) (e:=5) ?_;refine S.jd (T:=ag.u8) (e:=5) (v' :=.slice none (iB x).length 0) (xs' :=iB x) ai (by rw [e1];rfl) e1.symm ?_;exact S.rt results22 rfl hR ⟨none,0,by rw [e1];rfl,rfl⟩
def iP (c:UInt8):Bool:=c.toNat ==48 ||c.toNat ==49
def lQ:List Value:=(List.range 256).map fun i=>.bool (i ==48 ||i ==49)
theorem MW (c:UInt8):lQ[c.toNat]?=some (.bool (iP c)):=by
 have:=c.toNat_lt;simp only [lQ,iP,List.getElem?_map];rw [List.getElem?_range ah];rfl
theorem Hf {c:UInt8}:iP c=true↔c=48∨c=49:=by
 unfold iP;rw [Bool.or_eq_true,beq_iff_eq,beq_iff_eq]
 constructor
 ·rintro (h|h)
  ·exact .inl (UInt8.toNat_inj.1 h)
  ·exact .inr (UInt8.toNat_inj.1 h)
 ·rintro (rfl|rfl)
  ·exact .inl rfl
  ·exact .inr rfl
theorem zS {r:Fr} {b:Nat} {c:UInt8} (h:At r ⟨b,0,none⟩ lQ):ay prog 312 #[.pointer (some ⟨b,0,none⟩),bK c] r [] (aL fun v U=>v=.bool (iP c)∧U=[]):=by
 have hc:=c.toNat_lt;refine ay.of (n:=10) _ rfl func312 rfl rfl rfl fun g hg R hR=>?_;have h:=h.mono hg;refine S.seq<|S.region rfl<|O.q 1 rfl<|O.nil<|S.seq<|S.region rfl<|O.q 2 rfl<|O.op (.p rfl) (.nilCheck rfl)<|O.op (.p rfl) (.kK (j:=c.toNat) underlying310 F1 rfl rfl rfl ah)<|O.op (.p rfl) (.load iv rfl (h.at (MW c))) ?_;refine O.q 1 rfl<|O.nil ?_;exact S.rt results312 rfl hR ⟨rfl,rfl⟩
theorem sJ (l:List UInt8):(str l).size=l.length:=by simp
theorem Xs {s:List UInt8} {i:Nat} (hi:i<s.length) (h:∀ j (q:j<s.length),s.length - i≤j→iP s[j]=true) (e:iP (s[s.length - i - 1]'ah)=true):∀ j (q:j<s.length),s.length - (i+1)≤j→iP s[j]=true:=fun j q w=>by
 rcases Nat.lt_or_ge j (s.length - i) with w' |w'
 ·have:j=s.length - i - 1:=by omega
  subst this;exact e
 ·exact h j q w'
theorem XU {r:Fr} {b:Nat} {s:List UInt8} (h:At r ⟨b,0,none⟩ lQ) (hl:s.length≤1000000000000):ay prog 247 #[.string (str s),.pointer (some ⟨b,0,none⟩)] r [] (aL fun v U=>∃ k,k≤s.length∧v=.string (str (s.take k))∧(∀ j (q:j<s.length),k≤j→iP s[j]=true)∧(∀ q:k - 1<s.length,0<k→iP s[k - 1]=false)∧U=[]):=by
 have h0:=h;refine ay.of (n:=22) _ rfl func247 rfl rfl rfl fun g hg R hR=>?_;have h:=h.mono hg;refine S.seq<|S.region rfl<|O.q 1 rfl<|O.nil<|S.seq<|S.block<|S.slot 0 (v' :=.string (str (s.take (s.length - 0)))) rfl (by rw [Nat.sub_zero,List.take_length]) ?_;refine S.eM (ι:=Nat) (fun i=>i≤s.length∧∀ j (q:j<s.length),s.length - i≤j→iP s[j]=true) (fun i=>[(0,.string (str (s.take (s.length - i))))]) [(1,_)] (fun i=>[]) (fun i=>s.length - i) (0) (by exact ⟨by omega,fun j q w=>by omega⟩) (.cons rfl (.nil)) (.cons rfl (.nil)) rfl fun i hx ih=>?_;have bh:=cH (g:=g);obtain ⟨hx1,hall⟩:=hx;have jx:(s.take (s.length - i)).length=s.length - i:=by rw [List.length_take];omega
 have xN:∀ q:s.length - i - 1<(s.take (s.length - i)).length,(s.take (s.length - i))[s.length - i - 1]=s[s.length - i - 1]'ah:=fun q=>List.getElem_take
 by_cases hi:i<s.length
 ·have hj:s.length - i - 1<(s.take (s.length - i)).length:=by omega
  have hsz:(str (s.take (s.length - i))).size=s.length - i:=by rw [sJ,jx]
  cases e:iP (s[s.length - i - 1]'ah) with
  |true =>
   refine S.seq<|S.seq<|S.region rfl<|O.q 1 rfl<|O.op (.p rfl) (.c5 rfl underlying9 rfl)<|O.op (.p rfl) (.gtr rfl rfl)<|O.sT 7 rfl (by exact decide_eq_true (by rw [hsz];omega)) ?_;refine O.nil<|S.bx rfl<|S.skip<|S.block<|S.seq<|S.seq<|S.region rfl<|O.q 3 rfl<|O.op (.p rfl) (.c5 rfl underlying9 rfl)<|O.op (.p rfl) (.sub rfl rfl (IntWalk.i64_in _ ah))<|O.slot 12 (v' :=.int .i64 ((s.length - i - 1:Nat):Int)) rfl (by exact congrArg (Value.int .i64) (by rw [hsz];omega)) ?_;refine O.op (.p rfl) (.vG (j:=s.length - i - 1) underlying9 rfl rfl wi bD) ?_;refine O.slot 13 (v' :=bK (s[s.length - i - 1]'ah)) rfl (by exact congrArg bK (xN hj)) ?_;refine O.aC (.p rfl) rfl aa rfl rfl ((zS (h0.mono hg))) ?_;rintro _ _ ⟨rfl,rfl⟩
   try simp only [an,aq,au]
   refine O.sT 14 rfl (by exact e) ?_;refine O.op (.p rfl) (.not rfl)<|O.nil<|S.aQ rfl<|S.skip<|S.region rfl<|O.q 2 rfl<|O.op (.p rfl) (.c5 rfl underlying9 rfl)<|O.op (.p rfl) (.sub rfl rfl (IntWalk.i64_in _ ah))<|O.slot 19 (v' :=.int .i64 ((s.length - i - 1:Nat):Int)) rfl (by exact congrArg (Value.int .i64) (by rw [hsz];omega)) ?_;refine O.uC (b:=s.length - i - 1) (.p rfl) underlying9 rfl rfl (show _=(((s.length - i - 1):Nat):Int) by omega) bD ?_;refine O.q 1 rfl<|O.nil<|S.inBlock<|S.slot 0 (v' :=.string (str (s.take (s.length - (i+1))))) rfl (by rw [List.take_take,show min (s.length - i - 1) (s.length - i)=s.length - (i+1) from by omega]) ?_;exact S.dD (ih (i+1) (by exact ⟨by omega,Xs hi hall e⟩) ah)
  |false =>
   refine S.seq<|S.seq<|S.region rfl<|O.q 1 rfl<|O.op (.p rfl) (.c5 rfl underlying9 rfl)<|O.op (.p rfl) (.gtr rfl rfl)<|O.sT 7 rfl (by exact decide_eq_true (by rw [hsz];omega)) ?_;refine O.nil<|S.bx rfl<|S.skip<|S.block<|S.seq<|S.seq<|S.region rfl<|O.q 3 rfl<|O.op (.p rfl) (.c5 rfl underlying9 rfl)<|O.op (.p rfl) (.sub rfl rfl (IntWalk.i64_in _ ah))<|O.slot 12 (v' :=.int .i64 ((s.length - i - 1:Nat):Int)) rfl (by exact congrArg (Value.int .i64) (by rw [hsz];omega)) ?_;refine O.op (.p rfl) (.vG (j:=s.length - i - 1) underlying9 rfl rfl wi bD) ?_;refine O.slot 13 (v' :=bK (s[s.length - i - 1]'ah)) rfl (by exact congrArg bK (xN hj)) ?_;refine O.aC (.p rfl) rfl aa rfl rfl ((zS (h0.mono hg))) ?_;rintro _ _ ⟨rfl,rfl⟩
   try simp only [an,aq,au]
   refine O.aM 14 rfl (by exact e) ?_;refine O.op (.p rfl) (.not rfl)<|O.nil<|S.bx rfl<|S.exit rfl<|S.seq<|S.region rfl<|O.q 2 rfl<|O.nil ?_;exact S.rt results247 rfl hR ⟨s.length - i,by omega,rfl,hall,fun _ _=>e,rfl⟩
 ·have hii:i=s.length:=by omega
  have hsz:(str (s.take (s.length - i))).size=0:=by rw [hii];simp
  refine S.seq<|S.seq<|S.region rfl<|O.q 1 rfl<|O.op (.p rfl) (.c5 rfl underlying9 rfl)<|O.op (.p rfl) (.gtr rfl rfl)<|O.aM 7 rfl (by exact decide_eq_false (by rw [hsz];omega)) ?_;refine O.nil<|S.aQ rfl<|S.exit rfl<|S.seq<|S.region rfl<|O.q 2 rfl<|O.nil ?_;exact S.rt results247 rfl hR ⟨s.length - i,by omega,rfl,hall,fun _ w=>by omega,rfl⟩
theorem PO {s:List UInt8} {i:Nat} (hi:i<s.length) (h:∀ j (q:j<s.length),j<i→iP s[j]=true) (e:iP s[i]=true):∀ j (q:j<s.length),j<i+1→iP s[j]=true:=fun j q w=>by
 rcases Nat.lt_or_ge j i with w' |w'
 ·exact h j q w'
 ·have:j=i:=by omega
  subst this;exact e
theorem XT {r:Fr} {b:Nat} {s:List UInt8} (h:At r ⟨b,0,none⟩ lQ) (hl:s.length≤1000000000000):ay prog 246 #[.string (str s),.pointer (some ⟨b,0,none⟩)] r [] (aL fun v U=>∃ k,k≤s.length∧v=.string (str (s.drop k))∧(∀ j (q:j<s.length),j<k→iP s[j]=true)∧(∀ q:k<s.length,iP s[k]=false)∧U=[]):=by
 have h0:=h;refine ay.of (n:=16) _ rfl func246 rfl rfl rfl fun g hg R hR=>?_;have h:=h.mono hg;refine S.seq<|S.region rfl<|O.q 1 rfl<|O.nil<|S.seq<|S.block<|S.slot 0 (v' :=.string (str (s.drop 0))) rfl rfl ?_;refine S.eM (ι:=Nat) (fun i=>i≤s.length∧∀ j (q:j<s.length),j<i→iP s[j]=true) (fun i=>[(0,.string (str (s.drop i)))]) [(1,_)] (fun i=>[]) (fun i=>s.length - i) (0) (by exact ⟨by omega,fun j q w=>by omega⟩) (.cons rfl (.nil)) (.cons rfl (.nil)) rfl fun i hx ih=>?_;have bh:=cH (g:=g);obtain ⟨hx1,hall⟩:=hx;have hsz:(str (s.drop i)).size=s.length - i:=by rw [sJ,List.length_drop]
 have hdl:(s.drop i).length=s.length - i:=List.length_drop
 by_cases hi:i<s.length
 ·have xN:(s.drop i)[0]'ah=s[i]:=by rw [List.getElem_drop];simp
  cases e:iP s[i] with
  |true =>
   refine S.seq<|S.seq<|S.region rfl<|O.q 1 rfl<|O.op (.p rfl) (.c5 rfl underlying9 rfl)<|O.op (.p rfl) (.gtr rfl rfl)<|O.sT 7 rfl (by exact decide_eq_true (by rw [hsz];omega)) ?_;refine O.nil<|S.bx rfl<|S.skip<|S.block<|S.seq<|S.seq<|S.region rfl<|O.q 2 rfl<|O.op (.p rfl) (.vG (j:=0) underlying9 rfl rfl wi bD) ?_;refine O.slot 10 (v' :=bK s[i]) rfl (by exact congrArg bK xN) ?_;refine O.aC (.p rfl) rfl aa rfl rfl ((zS (h0.mono hg))) ?_;rintro _ _ ⟨rfl,rfl⟩
   try simp only [an,aq,au]
   refine O.sT 11 rfl (by exact e) ?_;refine O.op (.p rfl) (.not rfl)<|O.nil<|S.aQ rfl<|S.skip<|S.region rfl<|O.q 1 rfl<|O.Xg (a:=1) (.p rfl) underlying9 rfl rfl (show _=(((1):Nat):Int) by omega) bD ?_;refine O.q 1 rfl<|O.nil<|S.inBlock<|S.slot 0 (v' :=.string (str (s.drop (i+1)))) rfl (by rw [List.drop_drop]) ?_;exact S.dD (ih (i+1) (by exact ⟨by omega,PO hi hall e⟩) ah)
  |false =>
   refine S.seq<|S.seq<|S.region rfl<|O.q 1 rfl<|O.op (.p rfl) (.c5 rfl underlying9 rfl)<|O.op (.p rfl) (.gtr rfl rfl)<|O.sT 7 rfl (by exact decide_eq_true (by rw [hsz];omega)) ?_;refine O.nil<|S.bx rfl<|S.skip<|S.block<|S.seq<|S.seq<|S.region rfl<|O.q 2 rfl<|O.op (.p rfl) (.vG (j:=0) underlying9 rfl rfl wi bD) ?_;refine O.slot 10 (v' :=bK s[i]) rfl (by exact congrArg bK xN) ?_;refine O.aC (.p rfl) rfl aa rfl rfl ((zS (h0.mono hg))) ?_;rintro _ _ ⟨rfl,rfl⟩
   try simp only [an,aq,au]
   refine O.aM 11 rfl (by exact e) ?_;refine O.op (.p rfl) (.not rfl)<|O.nil<|S.bx rfl<|S.exit rfl<|S.seq<|S.region rfl<|O.q 2 rfl<|O.nil ?_;exact S.rt results246 rfl hR ⟨i,by omega,rfl,hall,fun _=>e,rfl⟩
 ·have hii:i=s.length:=by omega
  refine S.seq<|S.seq<|S.region rfl<|O.q 1 rfl<|O.op (.p rfl) (.c5 rfl underlying9 rfl)<|O.op (.p rfl) (.gtr rfl rfl)<|O.aM 7 rfl (by exact decide_eq_false (by rw [hsz];omega)) ?_;refine O.nil<|S.aQ rfl<|S.exit rfl<|S.seq<|S.region rfl<|O.q 2 rfl<|O.nil ?_;exact S.rt results246 rfl hR ⟨i,by omega,rfl,hall,fun w=>by omega,rfl⟩
theorem rI:lQ.length=256:=by simp [lQ]
theorem Hg:∀ v∈lQ,v.oneCell' =true:=fun v hv=>by
 obtain ⟨i,_,rfl⟩:=List.mem_map.1 hv;rfl
theorem TO {r:Fr}:ay prog 245 #[.string (str [48,49])] r [] (aL fun v U=>v=.tuple #[.agg lQ.toArray,.bool true]∧U=[]):=by
 refine ay.of (n:=21) _ rfl func245 rfl rfl rfl fun g hg R hR=>?_
 refine S.seq<|S.region rfl<|O.aN (.p rfl) (.alloc (cs:=[.bool false,.bool false,.bool false,.bool false,.bool false,.bool false,.bool false,.bool false,.bool false,.bool false,.bool false,.bool false,.bool false,.bool false,.bool false,.bool false,.bool false,.bool false,.bool false,.bool false,.bool false,.bool false,.bool false,.bool false,.bool false,.bool false,.bool false,.bool false,.bool false,.bool false,.bool false,.bool false,.bool false,.bool false,.bool false,.bool false,.bool false,.bool false,.bool false,.bool false,.bool false,.bool false,.bool false,.bool false,.bool false,.bool false,.bool false,.bool false,.bool false,.bool false,.bool false,.bool false,.bool false,.bool false,.bool false,.bool false,.bool false,.bool false,.bool false,.bool false,.bool false,.bool false,.bool false,.bool false,.bool false,.bool false,.bool false,.bool false,.bool false,.bool false,.bool false,.bool false,.bool false,.bool false,.bool false,.bool false,.bool false,.bool false,.bool false,.bool false,.bool false,.bool false,.bool false,.bool false,.bool false,.bool false,.bool false,.bool false,.bool false,.bool false,.bool false,.bool false,.bool false,.bool false,.bool false,.bool false,.bool false,.bool false,.bool false,.bool false,.bool false,.bool false,.bool false,.bool false,.bool false,.bool false,.bool false,.bool false,.bool false,.bool false,.bool false,.bool false,.bool false,.bool false,.bool false,.bool false,.bool false,.bool false,.bool false,.bool false,.bool false,.bool false,.bool false,.bool false,.bool false,.bool false,.bool false,.bool false,.bool false,.bool false,.bool false,.bool false,.bool false,.bool false,.bool false,.bool false,.bool false,.bool false,.bool false,.bool false,.bool false,.bool false,.bool false,.bool false,.bool false,.bool false,.bool false,.bool false,.bool false,.bool false,.bool false,.bool false,.bool false,.bool false,.bool false,.bool false,.bool false,.bool false,.bool false,.bool false,.bool false,.bool false,.bool false,.bool false,.bool false,.bool false,.bool false,.bool false,.bool false,.bool false,.bool false,.bool false,.bool false,.bool false,.bool false,.bool false,.bool false,.bool false,.bool false,.bool false,.bool false,.bool false,.bool false,.bool false,.bool false,.bool false,.bool false,.bool false,.bool false,.bool false,.bool false,.bool false,.bool false,.bool false,.bool false,.bool false,.bool false,.bool false,.bool false,.bool false,.bool false,.bool false,.bool false,.bool false,.bool false,.bool false,.bool false,.bool false,.bool false,.bool false,.bool false,.bool false,.bool false,.bool false,.bool false,.bool false,.bool false,.bool false,.bool false,.bool false,.bool false,.bool false,.bool false,.bool false,.bool false,.bool false,.bool false,.bool false,.bool false,.bool false,.bool false,.bool false,.bool false,.bool false,.bool false,.bool false,.bool false,.bool false,.bool false,.bool false,.bool false,.bool false,.bool false,.bool false,.bool false,.bool false,.bool false,.bool false,.bool false,.bool false,.bool false,.bool false,.bool false,.bool false,.bool false,.bool false]) zeroValue310 rfl) ?_
 rintro _ _ ⟨b2,rfl,rfl⟩;refine O.q 1 rfl<|O.nil<|S.seq<|S.seq<|S.region rfl<|O.q 1 rfl<|O.nil<|S.block<|S.dx (b:=b2) (cs' :=List.replicate 256 (.bool false)) ai rfl ?_;refine S.L0<|S.seq<|S.seq<|S.region rfl<|O.q 2 rfl<|O.op (.p rfl) (.c5 rfl underlying9 rfl)<|O.op (.p rfl) (.lss rfl rfl)<|O.sT 9 rfl aK ?_;refine O.nil<|S.bx rfl<|S.skip<|S.seq<|S.block<|S.seq<|S.region rfl<|O.q 2 rfl<|O.op (.p rfl) (.vG (j:=0) underlying9 rfl rfl wi bD) ?_;refine O.slot 14 (v' :=.int .u8 48) rfl aK ?_;refine O.q 1 rfl<|O.nil<|S.seq<|S.seq<|S.region rfl<|O.q 1 rfl<|O.op (.p rfl) (.geq rfl rfl)<|O.aM 16 rfl aK ?_;refine O.nil<|S.aQ rfl<|S.skip<|S.region rfl<|O.q 1 rfl<|O.op (.p rfl) (.p_ (j:=48) underlying310 F1 rfl rfl (show _=(((48):Nat):Int) by omega) ah)<|O.bB rfl (.bp iv rfl rfl bt ai aX) ?_;refine O.nil<|S.inBlock<|S.region rfl<|O.q 1 rfl<|O.op (.p rfl) (.add rfl rfl (IntWalk.i64_in _ ah))<|O.q 1 rfl<|O.nil<|S.dx (b:=b2) (cs' :=(List.replicate 256 (.bool false)).set 48 (.bool true)) ai rfl ?_;refine S.FO<|S.seq<|S.seq<|S.region rfl<|O.q 2 rfl<|O.op (.p rfl) (.c5 rfl underlying9 rfl)<|O.op (.p rfl) (.lss rfl rfl)<|O.sT 9 rfl aK ?_;refine O.nil<|S.bx rfl<|S.skip<|S.seq<|S.block<|S.seq<|S.region rfl<|O.q 2 rfl<|O.op (.p rfl) (.vG (j:=1) underlying9 rfl rfl wi bD) ?_
 refine O.slot 14 (v' :=.int .u8 49) rfl aK ?_;refine O.q 1 rfl<|O.nil<|S.seq<|S.seq<|S.region rfl<|O.q 1 rfl<|O.op (.p rfl) (.geq rfl rfl)<|O.aM 16 rfl aK ?_;refine O.nil<|S.aQ rfl<|S.skip<|S.region rfl<|O.q 1 rfl<|O.op (.p rfl) (.p_ (j:=49) underlying310 F1 rfl rfl (show _=(((49):Nat):Int) by omega) ah)<|O.bB rfl (.bp iv rfl rfl bt ai aX) ?_;refine O.nil<|S.inBlock<|S.region rfl<|O.q 1 rfl<|O.op (.p rfl) (.add rfl rfl (IntWalk.i64_in _ ah))<|O.q 1 rfl<|O.nil<|S.dx (b:=b2) (cs' :=lQ) ai rfl ?_;refine S.FO<|S.seq<|S.seq<|S.region rfl<|O.q 2 rfl<|O.op (.p rfl) (.c5 rfl underlying9 rfl)<|O.op (.p rfl) (.lss rfl rfl)<|O.aM 9 rfl aK ?_;refine O.nil<|S.aQ rfl<|S.exit rfl<|S.seq<|S.region rfl<|O.op (.p rfl) (.sk (news:=lQ) isAgg310 (by rw [rI];kernel_rfl) rfl ai (by rw [List.drop_zero,List.take_length])) ?_;refine O.bB rfl (.c9 (news:=lQ) (by rw [rI];kernel_rfl) rfl rfl sS (List.all_eq_true.2 Hg) ai (by rw [rI];decide)) ?_;refine O.q 1 rfl<|O.nil<|S.dx (b:=b2) (cs' :=lQ) ai (by rw [List.take_zero,List.nil_append,List.drop_eq_nil_of_le (by rw [rI];decide),List.append_nil]) ?_;refine S.sC results245 rfl rfl ai (fP.agg isAgg310 (by rw [rI];kernel_rfl)) fun w hw=>Holds.end_ hR hw ?_;exact pk ⟨rfl,rfl⟩
theorem XV {s:List UInt8} {k m:Nat} (hk:k≤s.length) (h1:∀ j (q:j<s.length),k≤j→iP s[j]=true) (h2:∀ q:k - 1<s.length,0<k→iP s[k - 1]=false)
  (hm:m≤(s.take k).length) (h3:∀ j (q:j<(s.take k).length),j<m→iP (s.take k)[j]=true) (h4:∀ q:m<(s.take k).length,iP (s.take k)[m]=false):(s.take k).drop m=[]↔∀ c∈s,c=48∨c=49:=by
 have hl:(s.take k).length=k:=by rw [List.length_take];omega
 constructor
 ·intro e c hc
  have hmk:m=k:=by have:=congrArg List.length e;rw [List.length_drop,hl] at this;simp at this;omega
  obtain ⟨j,q,rfl⟩:=List.mem_iff_getElem.1 hc;rw [← Hf]
  rcases Nat.lt_or_ge j k with w|w
  ·have:=h3 j ah ah
   rw [List.getElem_take] at this;exact this
  ·exact h1 j q w
 ·intro w
  have h0:k=0:=Nat.eq_zero_of_not_pos fun hp=>by
   have q:k - 1<s.length:=by omega
   have:=h2 q hp;rw [Hf.2 (w _ (List.getElem_mem q))] at this;cases this
  subst h0;simp
theorem LV {r:Fr} {s:List UInt8} (hl:s.length≤1000000000000):ay prog 163 #[.string (str s),.string (str [48,49])] r [] (aL fun v U=>∃ t,v=.string (str t)∧(t=[]↔∀ c∈s,c=48∨c=49)∧U=[]):=by
 refine ay.of (n:=43) _ rfl func163 rfl rfl rfl fun g hg R hR=>?_
 by_cases h0:s=[]
 ·
  refine S.seq<|S.region rfl<|O.q 1 rfl<|O.nil<|S.seq<|S.seq<|S.region rfl<|O.q 1 rfl<|O.op (.p rfl) (.kU rfl rfl)<|O.sT 8 rfl (by simp [h0]) ?_;refine O.q 4 rfl<|O.nil<|S.bx rfl<|S.seq<|S.region rfl<|O.q 2 rfl<|O.nil ?_;exact S.rt results163 rfl hR ⟨s,rfl,⟨fun _=>by rw [h0];exact fun _ h=>(by cases h),fun _=>h0⟩,rfl⟩
 ·
  refine S.seq<|S.region rfl<|O.q 1 rfl<|O.nil<|S.seq<|S.seq<|S.region rfl<|O.q 1 rfl<|O.op (.p rfl) (.kU rfl rfl)<|O.aM 8 rfl (by exact decide_eq_false (fun q=>h0 (nV q))) ?_;refine O.q 2 rfl<|O.op (.g rfl rfl) (.kU rfl rfl)<|O.aM 11 rfl bL ?_;refine O.q 1 rfl<|O.nil<|S.aQ rfl<|S.skip<|S.seq<|S.seq<|S.region rfl<|O.q 1 rfl<|O.op (.p rfl) (.c5 rfl underlying9 rfl)<|O.op (.p rfl) (.eql rfl rfl)<|O.aM 16 rfl aK ?_;refine O.q 5 rfl<|O.nil<|S.aQ rfl<|S.skip<|S.seq<|S.seq<|S.region rfl<|O.q 1 rfl<|O.aC (.p rfl) rfl aa rfl rfl (TO) ?_;rintro _ _ ⟨rfl,rfl⟩
  try simp only [an,aq,au]
  refine O.q 3 rfl<|O.aN (.p rfl) (.alloc (cs:=[.bool false,.bool false,.bool false,.bool false,.bool false,.bool false,.bool false,.bool false,.bool false,.bool false,.bool false,.bool false,.bool false,.bool false,.bool false,.bool false,.bool false,.bool false,.bool false,.bool false,.bool false,.bool false,.bool false,.bool false,.bool false,.bool false,.bool false,.bool false,.bool false,.bool false,.bool false,.bool false,.bool false,.bool false,.bool false,.bool false,.bool false,.bool false,.bool false,.bool false,.bool false,.bool false,.bool false,.bool false,.bool false,.bool false,.bool false,.bool false,.bool false,.bool false,.bool false,.bool false,.bool false,.bool false,.bool false,.bool false,.bool false,.bool false,.bool false,.bool false,.bool false,.bool false,.bool false,.bool false,.bool false,.bool false,.bool false,.bool false,.bool false,.bool false,.bool false,.bool false,.bool false,.bool false,.bool false,.bool false,.bool false,.bool false,.bool false,.bool false,.bool false,.bool false,.bool false,.bool false,.bool false,.bool false,.bool false,.bool false,.bool false,.bool false,.bool false,.bool false,.bool false,.bool false,.bool false,.bool false,.bool false,.bool false,.bool false,.bool false,.bool false,.bool false,.bool false,.bool false,.bool false,.bool false,.bool false,.bool false,.bool false,.bool false,.bool false,.bool false,.bool false,.bool false,.bool false,.bool false,.bool false,.bool false,.bool false,.bool false,.bool false,.bool false,.bool false,.bool false,.bool false,.bool false,.bool false,.bool false,.bool false,.bool false,.bool false,.bool false,.bool false,.bool false,.bool false,.bool false,.bool false,.bool false,.bool false,.bool false,.bool false,.bool false,.bool false,.bool false,.bool false,.bool false,.bool false,.bool false,.bool false,.bool false,.bool false,.bool false,.bool false,.bool false,.bool false,.bool false,.bool false,.bool false,.bool false,.bool false,.bool false,.bool false,.bool false,.bool false,.bool false,.bool false,.bool false,.bool false,.bool false,.bool false,.bool false,.bool false,.bool false,.bool false,.bool false,.bool false,.bool false,.bool false,.bool false,.bool false,.bool false,.bool false,.bool false,.bool false,.bool false,.bool false,.bool false,.bool false,.bool false,.bool false,.bool false,.bool false,.bool false,.bool false,.bool false,.bool false,.bool false,.bool false,.bool false,.bool false,.bool false,.bool false,.bool false,.bool false,.bool false,.bool false,.bool false,.bool false,.bool false,.bool false,.bool false,.bool false,.bool false,.bool false,.bool false,.bool false,.bool false,.bool false,.bool false,.bool false,.bool false,.bool false,.bool false,.bool false,.bool false,.bool false,.bool false,.bool false,.bool false,.bool false,.bool false,.bool false,.bool false,.bool false,.bool false,.bool false,.bool false,.bool false,.bool false,.bool false,.bool false,.bool false,.bool false,.bool false,.bool false,.bool false,.bool false,.bool false,.bool false,.bool false,.bool false,.bool false,.bool false,.bool false,.bool false,.bool false]) zeroValue310 rfl) ?_
  rintro _ _ ⟨iN,rfl,rfl⟩;refine O.bB rfl (.c9 (news:=lQ) (by rw [rI];kernel_rfl) rfl rfl sS (List.all_eq_true.2 Hg) ai (by rw [rI];decide)) ?_;refine O.q 1 rfl<|O.nil<|S.seq<|S.dx (b:=iN) (cs' :=lQ) ai (by rw [List.take_zero,List.nil_append,List.drop_eq_nil_of_le (by rw [rI];decide),List.append_nil]) ?_;refine S.de ai fun g hs hm h5=>?_;replace hg:=Fr.aI hg hs;replace hR:=bu hR hm;clear hs hm;refine S.region rfl<|O.q 1 rfl<|O.sT 34 rfl aK ?_;refine O.nil<|S.bx rfl<|S.seq<|S.region rfl<|O.q 1 rfl<|O.aC (.p rfl) rfl aa rfl rfl ((XU h5 hl)) ?_;rintro v36 _ ⟨k,hk,rfl,h1,h2,rfl⟩
  try simp only [an,aq,au]
  refine O.aC (.p rfl) rfl aa rfl rfl ((XT h5 (by rw [List.length_take];omega))) ?_;rintro v37 _ ⟨m,hm,rfl,h3,h4,rfl⟩
  try simp only [an,aq,au]
  refine O.q 1 rfl<|O.nil ?_;exact S.rt results163 rfl hR ⟨(s.take k).drop m,rfl,XV hk h1 h2 hm h3 h4,rfl⟩
theorem XE {g:bn} {bI bZ:Nat} {x:Value} {fQ :TypeId} {w:World} {R:Ending→World→Prop} {U:List az} (hw:Holds w g (obj bZ fQ [x]::U)) (hR:∀ w,Holds w g (obj bZ fQ [x]::U)→R (.returned x) w) :
  CallsD prog 389 #[.pointer (some ⟨bI,0,none⟩),.pointer (some ⟨bZ,0,none⟩)] .returning w (sU g bZ R):=by
 refine (oc (R:=fun e w=>(∃ v,e=.returned v)∧Holds w g (obj bZ fQ [x]::U)) [.pointer (some ⟨bI,0,none⟩),.pointer (some ⟨bZ,0,none⟩)] rfl func389 rfl rfl rfl rfl hw ?_).mono ?_
 rotate_left
 ·rintro e u' w' ⟨rfl,⟨v,rfl⟩,h⟩
  exact ⟨⟨v,rfl⟩,rfl,fQ,x,U,h,hR w' h⟩
 refine S.seq<|S.region rfl<|O.q 1 rfl<|O.op (.p rfl) (.vL underlying20 rfl)<|O.nil<|S.aQ rfl<|S.skip<|S.ez results389 fun w hw=>?_;exact ⟨⟨_,rfl⟩,hw⟩
theorem XD {g:bn} {bI bZ b:Nat} {v x:Value} {made bad:Bool} {fQ wz:TypeId} {w:World} {R:Ending→World→Prop} {U:List az} (hw:Holds w g (obj bZ fQ [x]::obj bI wz [.pointer (some ⟨b,0,none⟩)]::obj b 441 [v,.bool made,.bool bad]::U))
  (hR:∀ w,Holds w g (obj bZ fQ [.int .u8 0]::obj b 441 [v,.bool made,.bool true]::U)→R (.returned (.int .u8 0)) w) :
  CallsD prog 389 #[.pointer (some ⟨bI,0,none⟩),.pointer (some ⟨bZ,0,none⟩)] (.panicking missing) w (sU g bZ R):=by
 refine (oc (R:=fun e w=>(∃ v,e=.returned v)∧Holds w g (obj bZ fQ [.int .u8 0]::obj b 441 [v,.bool made,.bool true]::U)) [.pointer (some ⟨bI,0,none⟩),.pointer (some ⟨bZ,0,none⟩)] rfl func389 rfl rfl rfl rfl hw ?_).mono ?_
 rotate_left
 ·rintro e u' w' ⟨rfl,⟨v,rfl⟩,h⟩
  exact ⟨⟨v,rfl⟩,rfl,fQ,_,_,h,hR w' h⟩
 refine S.seq<|S.region rfl<|O.q 1 rfl<|O.op (.p rfl) (.vM underlying20 rfl)<|O.nil<|S.bx rfl<|S.seq<|S.seq<|S.region rfl<|O.q 1 rfl<|O.op (.p rfl) (.u0 underlying459 rfl)<|O.q 3 rfl<|O.aN (.p rfl) (.alloc (cs:=[]) zeroValue459 rfl) ?_;rintro _ _ ⟨b3,rfl,rfl⟩;refine O.bB rfl (.c9 aa rfl rfl rfl rfl ai aX) ?_;refine O.q 1 rfl<|O.nil<|S.seq<|S.region rfl<|O.q 1 rfl<|O.op (.p rfl) (.not rfl)<|O.nil<|S.aQ rfl<|S.skip<|S.seq<|S.region rfl<|O.op (.p rfl) (.lo o7) ?_;refine O.op (.p rfl) (.nilCheck rfl)<|O.op (.p rfl) (.aH zF rfl)<|O.bB rfl (.bp iv rfl rfl bt ai aX) ?_;refine O.nil<|S.seq<|S.region rfl<|O.q 1 rfl<|O.nil<|S.region rfl<|O.q 1 rfl<|O.bB rfl (.bp lq rfl rfl bt ai aX) ?_;refine O.nil<|S.ez results389 fun w hw=>?_;exact ⟨⟨_,rfl⟩,hw.jP jf⟩
theorem XC {r:Fr} {b f:Nat} {v:Value} {made bad:Bool} {first cap:Array Value} {K:Value→Value→List az→Prop} {X:Value→Prop} (hc:dG prog f=true) (o9:∀ u v' ζ,K u v' ζ→u.oneCell' =true)
  (con:made=true→bad=false→ay prog f (first++#[]++cap) r [obj b 441 [v,.bool true,.bool false]] (eN (fun u U=>∃ v' ζ,K u v' ζ∧U=obj b 441 [v',.bool true,.bool false]::ζ) (fun ch U=>ch=missing∧∃ v',X v' ∧U=[obj b 441 [v',.bool true,.bool false]]))) :
  ay prog 368 #[.pointer (some ⟨b,0,none⟩),.func (.func f) first cap] r [obj b 441 [v,.bool made,.bool bad]] (aL fun u U =>
   ((made && !bad)=false∧u=.int .u8 0∧U=[obj b 441 [v,.bool made,.bool bad]])∨(made=true∧bad=false∧∃ v' ζ,K u v' ζ∧U=obj b 441 [v',.bool true,.bool false]::ζ) ∨
   (made=true∧bad=false∧∃ v',X v' ∧u=.int .u8 0∧U=[obj b 441 [v',.bool true,.bool true]])):=by
 refine ay.of (n:=12) [.pointer (some ⟨b,0,none⟩),.func (.func f) first cap] rfl func368 rfl rfl rfl fun g hg R hR=>?_;refine S.seq<|S.region rfl<|O.aN (.p rfl) (.box (cs:=[_]) rfl rfl) ?_;rintro _ _ ⟨b2,rfl,rfl⟩;refine O.aN (.p rfl) (.alloc (cs:=[.int .u8 0]) zeroValue5 rfl) ?_;rintro _ _ ⟨b4,rfl,rfl⟩;refine O.nil<|S.seq<|S.seq<|S.region rfl<|O.op (.p rfl) (.lo o7) ?_;refine O.bM (.p rfl) rfl aa rfl rfl ai AY ?_;rintro _ _ ⟨rfl,rfl⟩
 try simp only [an,aq,au]
 refine O.op (.p rfl) ((by first|exact .mg rfl|exact .not rfl)) ?_;refine O.nil ?_
 first|refine S.cm rfl (fun h7=>?_) (fun h7=>?_)|refine S.b_ rfl (fun h7=>?_) (fun h7=>?_)
 ·refine S.seq<|S.region rfl<|O.op (.p rfl) (.lo lq) ?_
  refine O.bB rfl (.bp lq rfl rfl bt ai aX) ?_;refine O.nil<|S.FQ results368 lq rfl ai fun w hw=>Holds.end_ hR hw ?_;exact pk (.inl ⟨by revert h7;cases made<;>cases bad<;>simp,rfl,rfl⟩)
 ·obtain ⟨rfl,rfl⟩:made=true∧bad=false:=by revert h7;cases made<;>cases bad<;>simp
  refine S.skip<|S.seq<|S.region rfl<|O.op (.p rfl) (.jb rfl rfl)<|O.defer rfl rfl rfl rfl ?_;refine O.nil<|S.seq<|S.region rfl<|O.q 1 rfl<|O.Cn (.p rfl) rfl hc rfl rfl ai ((con rfl rfl).sub hg) (fun a ch ax w hF hX hW=>by (obtain ⟨rfl,v',w9,rfl⟩:=hX;exact vH results368 lq hF rfl bL aa (XD (hW.jP jf) fun w hw=>Holds.end_ hR hw ⟨_,.inr (.inr ⟨rfl,rfl,v',w9,rfl,rfl⟩),by repeat (first|exact aS|exact aU|(apply aT;focus (repeat (first|exact aR|apply zt)))|apply aV)⟩))) ?_;rintro v11 _ ⟨v',ζ,hK,rfl⟩
  try simp only [an,aq,au]
  have hone:=o9 _ _ _ hK;refine O.perm (List.Perm.cons _ List.perm_append_comm) ?_;simp only [List.cons_append,List.nil_append];refine O.bB rfl (.bp lq rfl rfl bt ai aX) ?_;refine O.nil<|S.q_ fun a w hf hd hw=>?_;exact vH results368 lq hf rfl bL aa (XE hw fun w hw=>Holds.end_ hR hw ⟨_,.inr (.inl ⟨rfl,rfl,v',ζ,hK,rfl⟩),by repeat (first|exact aS|exact aU|(apply aT;focus (repeat (first|exact aR|apply zt)))|apply aV)⟩)
theorem XG {g:bn} {bI bZ:Nat} {x:Value} {fQ :TypeId} {w:World} {R:Ending→World→Prop} {U:List az} (hw:Holds w g (obj bZ fQ [x]::U)) (hR:∀ w,Holds w g (obj bZ fQ [x]::U)→R (.returned x) w) :
  CallsD prog 392 #[.pointer (some ⟨bI,0,none⟩),.pointer (some ⟨bZ,0,none⟩)] .returning w (sU g bZ R):=by
 refine (oc (R:=fun e w=>(∃ v,e=.returned v)∧Holds w g (obj bZ fQ [x]::U)) [.pointer (some ⟨bI,0,none⟩),.pointer (some ⟨bZ,0,none⟩)] rfl func392 rfl rfl rfl rfl hw ?_).mono ?_
 rotate_left
 ·rintro e u' w' ⟨rfl,⟨v,rfl⟩,h⟩
  exact ⟨⟨v,rfl⟩,rfl,fQ,x,U,h,hR w' h⟩
 refine S.seq<|S.region rfl<|O.q 1 rfl<|O.op (.p rfl) (.vL underlying20 rfl)<|O.nil<|S.aQ rfl<|S.skip<|S.ez results392 fun w hw=>?_;exact ⟨⟨_,rfl⟩,hw⟩
theorem XF {g:bn} {bI bZ b:Nat} {v x:Value} {made bad:Bool} {fQ wz:TypeId} {w:World} {R:Ending→World→Prop} {U:List az} (hw:Holds w g (obj bZ fQ [x]::obj bI wz [.pointer (some ⟨b,0,none⟩)]::obj b 441 [v,.bool made,.bool bad]::U))
  (hR:∀ w,Holds w g (obj bZ fQ [.int .i64 0]::obj b 441 [v,.bool made,.bool true]::U)→R (.returned (.int .i64 0)) w) :
  CallsD prog 392 #[.pointer (some ⟨bI,0,none⟩),.pointer (some ⟨bZ,0,none⟩)] (.panicking missing) w (sU g bZ R):=by
 refine (oc (R:=fun e w=>(∃ v,e=.returned v)∧Holds w g (obj bZ fQ [.int .i64 0]::obj b 441 [v,.bool made,.bool true]::U)) [.pointer (some ⟨bI,0,none⟩),.pointer (some ⟨bZ,0,none⟩)] rfl func392 rfl rfl rfl rfl hw ?_).mono ?_
 rotate_left
 ·rintro e u' w' ⟨rfl,⟨v,rfl⟩,h⟩
  exact ⟨⟨v,rfl⟩,rfl,fQ,_,_,h,hR w' h⟩
 refine S.seq<|S.region rfl<|O.q 1 rfl<|O.op (.p rfl) (.vM underlying20 rfl)<|O.nil<|S.bx rfl<|S.seq<|S.seq<|S.region rfl<|O.q 1 rfl<|O.op (.p rfl) (.u0 underlying459 rfl)<|O.q 3 rfl<|O.aN (.p rfl) (.alloc (cs:=[]) zeroValue459 rfl) ?_;rintro _ _ ⟨b3,rfl,rfl⟩;refine O.bB rfl (.c9 aa rfl rfl rfl rfl ai aX) ?_;refine O.q 1 rfl<|O.nil<|S.seq<|S.region rfl<|O.q 1 rfl<|O.op (.p rfl) (.not rfl)<|O.nil<|S.aQ rfl<|S.skip<|S.seq<|S.region rfl<|O.op (.p rfl) (.lo o7) ?_;refine O.op (.p rfl) (.nilCheck rfl)<|O.op (.p rfl) (.aH zF rfl)<|O.bB rfl (.bp iv rfl rfl bt ai aX) ?_;refine O.nil<|S.seq<|S.region rfl<|O.q 1 rfl<|O.nil<|S.region rfl<|O.q 1 rfl<|O.bB rfl (.bp cz rfl rfl bt ai aX) ?_;refine O.nil<|S.ez results392 fun w hw=>?_;exact ⟨⟨_,rfl⟩,hw.jP jf⟩
theorem LU {r:Fr} {b f:Nat} {v:Value} {made bad:Bool} {first cap:Array Value} {K:Value→Value→List az→Prop} {X:Value→Prop} (hc:dG prog f=true) (o9:∀ u v' ζ,K u v' ζ→u.oneCell' =true)
  (con:made=true→bad=false→ay prog f (first++#[]++cap) r [obj b 441 [v,.bool true,.bool false]] (eN (fun u U=>∃ v' ζ,K u v' ζ∧U=obj b 441 [v',.bool true,.bool false]::ζ) (fun ch U=>ch=missing∧∃ v',X v' ∧U=[obj b 441 [v',.bool true,.bool false]]))) :
  ay prog 374 #[.pointer (some ⟨b,0,none⟩),.func (.func f) first cap] r [obj b 441 [v,.bool made,.bool bad]] (aL fun u U =>
   ((made && !bad)=false∧u=.int .i64 0∧U=[obj b 441 [v,.bool made,.bool bad]])∨(made=true∧bad=false∧∃ v' ζ,K u v' ζ∧U=obj b 441 [v',.bool true,.bool false]::ζ) ∨
   (made=true∧bad=false∧∃ v',X v' ∧u=.int .i64 0∧U=[obj b 441 [v',.bool true,.bool true]])):=by
 refine ay.of (n:=12) [.pointer (some ⟨b,0,none⟩),.func (.func f) first cap] rfl func374 rfl rfl rfl fun g hg R hR=>?_;refine S.seq<|S.region rfl<|O.aN (.p rfl) (.box (cs:=[_]) rfl rfl) ?_;rintro _ _ ⟨b2,rfl,rfl⟩;refine O.aN (.p rfl) (.alloc (cs:=[.int .i64 0]) zeroValue3 rfl) ?_;rintro _ _ ⟨b4,rfl,rfl⟩;refine O.nil<|S.seq<|S.seq<|S.region rfl<|O.op (.p rfl) (.lo o7) ?_;refine O.bM (.p rfl) rfl aa rfl rfl ai AY ?_;rintro _ _ ⟨rfl,rfl⟩
 try simp only [an,aq,au]
 refine O.op (.p rfl) ((by first|exact .mg rfl|exact .not rfl)) ?_;refine O.nil ?_
 first|refine S.cm rfl (fun h7=>?_) (fun h7=>?_)|refine S.b_ rfl (fun h7=>?_) (fun h7=>?_)
 ·refine S.seq<|S.region rfl<|O.op (.p rfl) (.lo cz) ?_
  refine O.bB rfl (.bp cz rfl rfl bt ai aX) ?_;refine O.nil<|S.FQ results374 cz rfl ai fun w hw=>Holds.end_ hR hw ?_;exact pk (.inl ⟨by revert h7;cases made<;>cases bad<;>simp,rfl,rfl⟩)
 ·obtain ⟨rfl,rfl⟩:made=true∧bad=false:=by revert h7;cases made<;>cases bad<;>simp
  refine S.skip<|S.seq<|S.region rfl<|O.op (.p rfl) (.jb rfl rfl)<|O.defer rfl rfl rfl rfl ?_;refine O.nil<|S.seq<|S.region rfl<|O.q 1 rfl<|O.Cn (.p rfl) rfl hc rfl rfl ai ((con rfl rfl).sub hg) (fun a ch ax w hF hX hW=>by (obtain ⟨rfl,v',w9,rfl⟩:=hX;exact vH results374 cz hF rfl bL aa (XF (hW.jP jf) fun w hw=>Holds.end_ hR hw ⟨_,.inr (.inr ⟨rfl,rfl,v',w9,rfl,rfl⟩),by repeat (first|exact aS|exact aU|(apply aT;focus (repeat (first|exact aR|apply zt)))|apply aV)⟩))) ?_;rintro v11 _ ⟨v',ζ,hK,rfl⟩
  try simp only [an,aq,au]
  have hone:=o9 _ _ _ hK;refine O.perm (List.Perm.cons _ List.perm_append_comm) ?_;simp only [List.cons_append,List.nil_append];refine O.bB rfl (.bp cz rfl rfl bt ai aX) ?_;refine O.nil<|S.q_ fun a w hf hd hw=>?_;exact vH results374 cz hf rfl bL aa (XG hw fun w hw=>Holds.end_ hR hw ⟨_,.inr (.inl ⟨rfl,rfl,v',ζ,hK,rfl⟩),by repeat (first|exact aS|exact aU|(apply aT;focus (repeat (first|exact aR|apply zt)))|apply aV)⟩)
theorem XS {g:bn} {bI bZ:Nat} {x:Value} {fQ :TypeId} {w:World} {R:Ending→World→Prop} {U:List az} (hw:Holds w g (obj bZ fQ [x]::U)) (hR:∀ w,Holds w g (obj bZ fQ [x]::U)→R (.returned x) w) :
  CallsD prog 390 #[.pointer (some ⟨bI,0,none⟩),.pointer (some ⟨bZ,0,none⟩)] .returning w (sU g bZ R):=by
 refine (oc (R:=fun e w=>(∃ v,e=.returned v)∧Holds w g (obj bZ fQ [x]::U)) [.pointer (some ⟨bI,0,none⟩),.pointer (some ⟨bZ,0,none⟩)] rfl func390 rfl rfl rfl rfl hw ?_).mono ?_
 rotate_left
 ·rintro e u' w' ⟨rfl,⟨v,rfl⟩,h⟩
  exact ⟨⟨v,rfl⟩,rfl,fQ,x,U,h,hR w' h⟩
 refine S.seq<|S.region rfl<|O.q 1 rfl<|O.op (.p rfl) (.vL underlying20 rfl)<|O.nil<|S.aQ rfl<|S.skip<|S.ez results390 fun w hw=>?_;exact ⟨⟨_,rfl⟩,hw⟩
theorem XR {g:bn} {bI bZ b:Nat} {v x:Value} {made bad:Bool} {fQ wz:TypeId} {w:World} {R:Ending→World→Prop} {U:List az} (hw:Holds w g (obj bZ fQ [x]::obj bI wz [.pointer (some ⟨b,0,none⟩)]::obj b 441 [v,.bool made,.bool bad]::U))
  (hR:∀ w,Holds w g (obj bZ fQ [.slice none 0 0]::obj b 441 [v,.bool made,.bool true]::U)→R (.returned (.slice none 0 0)) w) :
  CallsD prog 390 #[.pointer (some ⟨bI,0,none⟩),.pointer (some ⟨bZ,0,none⟩)] (.panicking missing) w (sU g bZ R):=by
 refine (oc (R:=fun e w=>(∃ v,e=.returned v)∧Holds w g (obj bZ fQ [.slice none 0 0]::obj b 441 [v,.bool made,.bool true]::U)) [.pointer (some ⟨bI,0,none⟩),.pointer (some ⟨bZ,0,none⟩)] rfl func390 rfl rfl rfl rfl hw ?_).mono ?_
 rotate_left
 ·rintro e u' w' ⟨rfl,⟨v,rfl⟩,h⟩
  exact ⟨⟨v,rfl⟩,rfl,fQ,_,_,h,hR w' h⟩
 refine S.seq<|S.region rfl<|O.q 1 rfl<|O.op (.p rfl) (.vM underlying20 rfl)<|O.nil<|S.bx rfl<|S.seq<|S.seq<|S.region rfl<|O.q 1 rfl<|O.op (.p rfl) (.u0 underlying459 rfl)<|O.q 3 rfl<|O.aN (.p rfl) (.alloc (cs:=[]) zeroValue459 rfl) ?_;rintro _ _ ⟨b3,rfl,rfl⟩;refine O.bB rfl (.c9 aa rfl rfl rfl rfl ai aX) ?_;refine O.q 1 rfl<|O.nil<|S.seq<|S.region rfl<|O.q 1 rfl<|O.op (.p rfl) (.not rfl)<|O.nil<|S.aQ rfl<|S.skip<|S.seq<|S.region rfl<|O.op (.p rfl) (.lo o7) ?_;refine O.op (.p rfl) (.nilCheck rfl)<|O.op (.p rfl) (.aH zF rfl)<|O.bB rfl (.bp iv rfl rfl bt ai aX) ?_;refine O.nil<|S.seq<|S.region rfl<|O.q 1 rfl<|O.nil<|S.region rfl<|O.q 1 rfl<|O.bB rfl (.bp bl rfl rfl bt ai aX) ?_;refine O.nil<|S.ez results390 fun w hw=>?_;exact ⟨⟨_,rfl⟩,hw.jP jf⟩
theorem XQ {r:Fr} {b f:Nat} {v:Value} {made bad:Bool} {first cap:Array Value} {K:Value→Value→List az→Prop} {X:Value→Prop} (hc:dG prog f=true) (o9:∀ u v' ζ,K u v' ζ→u.oneCell' =true)
  (con:made=true→bad=false→ay prog f (first++#[]++cap) r [obj b 441 [v,.bool true,.bool false]] (eN (fun u U=>∃ v' ζ,K u v' ζ∧U=obj b 441 [v',.bool true,.bool false]::ζ) (fun ch U=>ch=missing∧∃ v',X v' ∧U=[obj b 441 [v',.bool true,.bool false]]))) :
  ay prog 370 #[.pointer (some ⟨b,0,none⟩),.func (.func f) first cap] r [obj b 441 [v,.bool made,.bool bad]] (aL fun u U =>
   ((made && !bad)=false∧u=.slice none 0 0∧U=[obj b 441 [v,.bool made,.bool bad]])∨(made=true∧bad=false∧∃ v' ζ,K u v' ζ∧U=obj b 441 [v',.bool true,.bool false]::ζ) ∨
   (made=true∧bad=false∧∃ v',X v' ∧u=.slice none 0 0∧U=[obj b 441 [v',.bool true,.bool true]])):=by
 refine ay.of (n:=12) [.pointer (some ⟨b,0,none⟩),.func (.func f) first cap] rfl func370 rfl rfl rfl fun g hg R hR=>?_;refine S.seq<|S.region rfl<|O.aN (.p rfl) (.box (cs:=[_]) rfl rfl) ?_;rintro _ _ ⟨b2,rfl,rfl⟩;refine O.aN (.p rfl) (.alloc (cs:=[.slice none 0 0]) zeroValue24 rfl) ?_;rintro _ _ ⟨b4,rfl,rfl⟩;refine O.nil<|S.seq<|S.seq<|S.region rfl<|O.op (.p rfl) (.lo o7) ?_;refine O.bM (.p rfl) rfl aa rfl rfl ai AY ?_;rintro _ _ ⟨rfl,rfl⟩
 try simp only [an,aq,au]
 refine O.op (.p rfl) ((by first|exact .mg rfl|exact .not rfl)) ?_;refine O.nil ?_
 first|refine S.cm rfl (fun h7=>?_) (fun h7=>?_)|refine S.b_ rfl (fun h7=>?_) (fun h7=>?_)
 ·refine S.seq<|S.region rfl<|O.op (.p rfl) (.lo bl) ?_
  refine O.bB rfl (.bp bl rfl rfl bt ai aX) ?_;refine O.nil<|S.FQ results370 bl rfl ai fun w hw=>Holds.end_ hR hw ?_;exact pk (.inl ⟨by revert h7;cases made<;>cases bad<;>simp,rfl,rfl⟩)
 ·obtain ⟨rfl,rfl⟩:made=true∧bad=false:=by revert h7;cases made<;>cases bad<;>simp
  refine S.skip<|S.seq<|S.region rfl<|O.op (.p rfl) (.jb rfl rfl)<|O.defer rfl rfl rfl rfl ?_;refine O.nil<|S.seq<|S.region rfl<|O.q 1 rfl<|O.Cn (.p rfl) rfl hc rfl rfl ai ((con rfl rfl).sub hg) (fun a ch ax w hF hX hW=>by (obtain ⟨rfl,v',w9,rfl⟩:=hX;exact vH results370 bl hF rfl bL aa (XR (hW.jP jf) fun w hw=>Holds.end_ hR hw ⟨_,.inr (.inr ⟨rfl,rfl,v',w9,rfl,rfl⟩),by repeat (first|exact aS|exact aU|(apply aT;focus (repeat (first|exact aR|apply zt)))|apply aV)⟩))) ?_;rintro v11 _ ⟨v',ζ,hK,rfl⟩
  try simp only [an,aq,au]
  have hone:=o9 _ _ _ hK;refine O.perm (List.Perm.cons _ List.perm_append_comm) ?_;simp only [List.cons_append,List.nil_append];refine O.bB rfl (.bp bl rfl rfl bt ai aX) ?_;refine O.nil<|S.q_ fun a w hf hd hw=>?_;exact vH results370 bl hf rfl bL aa (XS hw fun w hw=>Holds.end_ hR hw ⟨_,.inr (.inl ⟨rfl,rfl,v',ζ,hK,rfl⟩),by repeat (first|exact aS|exact aU|(apply aT;focus (repeat (first|exact aR|apply zt)))|apply aV)⟩)
end Go.Proofs.YtojafegjlahajaaGreatDoor
