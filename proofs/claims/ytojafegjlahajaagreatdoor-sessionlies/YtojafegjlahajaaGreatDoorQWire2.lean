/- Texts of this proof. -/
import Derived.Test.YtojafegjlahajaaGreatDoorQMerk2
open Go Go.Sp Go.Proofs.Tryz
set_option maxRecDepth 100000
set_option maxHeartbeats 1000000
attribute [local irreducible] obj Own av
namespace Go.Proofs.YtojafegjlahajaaGreatDoor
theorem vR {α:Type} {T:ag α} {e:TypeId} {v:Value} {xs:List α} {m:Fr} (h:Sat [av T e v xs] m):aj T m v xs:=by
 obtain ⟨m1,_,_,s1,_,o,_⟩:=h;exact (av.arr o).mono s1
theorem NN {α:Type} {T:ag α} {e:TypeId} {vs:List Value} {xs:List (List α)} {m k:Fr} (s:m.sub k) (x:b6 (av T e) vs xs m):bV (aj T k) vs xs:=b6.sU (R:=fun v a=>aj T k v a) (fun _ _ _ z w=>aj.mono w (av.arr z)) x s
theorem NO {β α:Type} {A:β→α→az} {bs:List β} {ys:List α} {b1 b2:β} {a1 a2:α} {m:Fr} (st:Sat [b6 A bs ys,A b1 a1,A b2 a2] m):b6 A (bs++[b1,b2]) (ys++[a1,a2]) m:=by
 obtain ⟨h1,h2,d,s1,s2,x,y⟩:=st;exact b6.app ⟨h1,h2,d,s1,s2,x,h2,Fr.emp,Fr.eZ (Fr.dZ _),Fr.bU _,Fr.cV _,b6.E1 (A:=A) (bs:=[b1,b2]) rfl y,trivial⟩
theorem Tu {k:UInt8} (h:k.toNat<5):bD ([0,0,1,2,3]:List UInt8)[k.toNat]=bD (yc k):=by
 unfold yc;rw [List.getD_eq_getElem?_getD,List.getElem?_eq_getElem (show k.toNat<([0,0,1,2,3]:List UInt8).length from h)]
 rfl
theorem As {r:Fr} {cs:List Value} {x:dJ} (h:gv.rel r cs x) (hx0:x.2.1.length≤1000000000000∧x.2.2.1.length≤1000000000000) (hx2:x.2.2.2.1.length≤10000000∧∀ y∈x.2.2.2.1,y.2.1.length≤10000000) (hH:At r ⟨0,0,none⟩ (bR er)) (hK:At r ⟨1,0,none⟩ (bR gr)) :
  ay prog 22 #[.agg cs.toArray] r [] (aL fun v U=>∃ a c,v=.slice a (fP x).length c∧U=[av ag.u8 5 (.slice a (fP x).length c) (fP x)]):=by
 have h0:=h;obtain ⟨a1,a2,a3,c1,c2,c3,rfl,k1,k2,bg⟩:=gv.sh h;refine ay.of (n:=40) _ rfl func22 rfl rfl rfl fun g hg R hR=>?_;have h:=h.mono hg;have h0:=h0.mono hg;have k1:=k1.mono hg;have k2:=k2.mono hg;have bg:=bg.mono hg;have hH:=hH.mono hg;have hK:=hK.mono hg;have hb:=bg.bound;refine S.seq<|S.region rfl<|O.aM (.p rfl) (.box (cs:=[_,_,_,_]) rfl rfl) ?_;rintro _ _ ⟨b1,rfl,rfl⟩;refine O.q 1 rfl<|O.nil<|S.seq<|S.seq<|S.c7 (b:=b1) (cs' :=[bD x.1,.slice a1 x.2.1.length c1,.slice a2 x.2.2.1.length c2,.slice a3 x.2.2.2.1.length c3]) ai rfl ?_;refine S.cW ai fun g hs hm h1=>?_;replace hg:=Fr.aH hg hs;replace hR:=bp hR hm
 try replace h:=h.mono hs
 try replace h0:=h0.mono hs
 try replace k1:=k1.mono hs
 try replace k2:=k2.mono hs
 try replace bg:=bg.mono hs
 try replace hH:=hH.mono hs
 try replace hK:=hK.mono hs
 clear hs hm
 by_cases e:gE x
 ·have DD:=Tv e
  have hkeys:∀ y∈x.2.2.2.1,y.1.length≤64:=fun y hy=>(e.1.1 y hy).1.2;have iE:x.2.1.length≤64∧x.2.2.1.length≤64:=by rcases e.2 with q|q|q|q;rw [q.2.1,q.2.2.1];decide;rw [q.2.1,q.2.2.1];decide;omega;rw [q.2.1,q.2.2.1];decide
  refine S.region rfl<|O.op (.p rfl) (.bz isAgg27 aa rfl h1) ?_;refine O.aB (.p rfl) rfl aa rfl rfl ((JP h0 hx0 (fun y hy=>by have:=hx2.2 y hy;omega))) ?_;rintro _ _ ⟨rfl,rfl⟩
  try simp only [an,aq,au]
  refine O.sT 7 rfl (by exact decide_eq_true e) ?_;refine O.op (.p rfl) (.not rfl)<|O.nil<|S.aQ rfl<|S.skip<|S.seq<|S.bB (L:=[1,2,6,7,8,9,0,3,4,5,10,11]) bA aa ?_;refine .quiet (.p rfl) rfl (fun _=>.fieldAddr ez rfl)<|.quiet (.p rfl) rfl (fun _=>.loadAt ey rfl h1 rfl) ?_;refine .quiet (.p rfl) rfl (fun _=>.fieldAddr lX rfl)<|.quiet (.p rfl) rfl (fun _=>.loadAt bc rfl (h1.drop 1) rfl) ?_;refine .quiet (.p rfl) rfl (fun _=>.fieldAddr lY rfl)<|.quiet (.p rfl) rfl (fun _=>.loadAt bc rfl (h1.drop 2) rfl) ?_;refine af.ct (T:=ag.u8) (ys:=[0,0,1,2,3]) (.p rfl) aa underlying24 eR aC rfl rfl ⟨rfl,rfl,rfl,rfl,rfl,trivial⟩ aC (fun a9 qz=>?_);refine af.ot (T:=ag.u8) (e:=5) (v:=.slice a9 5 qz) (xs:=[0,0,1,2,3]) (j:=x.1.toNat) (.p rfl) aa underlying24 fR rfl rfl rfl ai DD (fun J' fN=>?_);refine af.cu (.p rfl) aa (fun _=>.JE (T:=ag.u8) (xs:=[0,0,1,2,3]) (j:=x.1.toNat) lu rfl fN rfl ai DD (by rintro _ rfl;exact congrArg (fun v=>[v]) (Tu DD))) ?_;refine af.ct (.p rfl) aa (T:=ag.u8) (ys:=[yc x.1]) underlying24 eR aC rfl rfl ⟨rfl,trivial⟩ aC (fun nV n4=>?_)
  refine af.ct (.p rfl) aa (T:=ag.val) (ys:=[.slice nV 1 n4,.slice a1 x.2.1.length c1,.slice a2 x.2.2.1.length c2]) underlying109 iC aC rfl rfl ⟨⟨rfl,rfl⟩,⟨rfl,rfl⟩,⟨rfl,rfl⟩,trivial⟩ aC (fun yQ y2=>?_);refine af.q 1 rfl<|aI.nil<|S.seq<|S.seq<|S.d_ (A:=av ag.u8 5 (.slice nV 1 n4) [yc x.1]) ai fun g hs hm ⟨_,x',s'⟩=>?_;have ht:=(fun s x=>aj.mono s (av.arr x)) s' x';clear x' s';replace hg:=Fr.aH hg hs;replace hR:=bp hR hm
  try replace h:=h.mono hs
  try replace h0:=h0.mono hs
  try replace k1:=k1.mono hs
  try replace k2:=k2.mono hs
  try replace bg:=bg.mono hs
  try replace hH:=hH.mono hs
  try replace hK:=hK.mono hs
  try replace h1:=h1.mono hs
  clear hs hm;refine S.d_ (A:=av ag.u8 5 (.slice a9 5 qz) [0,0,1,2,3]) ai fun g hs hm ⟨_,x',s'⟩=>?_;have h9:=(fun s x=>aj.mono s (av.arr x)) s' x';clear x' s';replace hg:=Fr.aH hg hs;replace hR:=bp hR hm
  try replace h:=h.mono hs
  try replace h0:=h0.mono hs
  try replace k1:=k1.mono hs
  try replace k2:=k2.mono hs
  try replace bg:=bg.mono hs
  try replace hH:=hH.mono hs
  try replace hK:=hK.mono hs
  try replace h1:=h1.mono hs
  try replace ht:=ht.mono hs
  clear hs hm;refine S.cB (A:=b6 (av ag.u8 5) [] (pJ (x.2.2.2.1.take 0))) (bs:=[]) .nil (fun m _=>trivial) ?_;refine S.region rfl<|O.op (.p rfl) (.fieldAddr lZ rfl)<|O.op (.p rfl) (.loadAt dK rfl (h1.drop 3) rfl) ?_;refine O.op (.p rfl) (.len rfl underlying25 rfl)<|O.q 1 rfl<|O.nil<|S.block<|S.x6 (ι:=Nat) (dI:=Option Addr × Nat) (jI:=List Value) (fun k s vs=>k≤x.2.2.2.1.length∧vs.length=2*k) (fun k s vs=>[(23,.int .i64 (k:Int)),(3,.slice s.1 (3+2*k) s.2)]) [(21,_),(22,_)] (fun k s vs=>[b6 (av ag.u8 5) vs (pJ (x.2.2.2.1.take k)),av ag.val 24 (.slice s.1 (3+2*k) s.2) ([.slice nV 1 n4,.slice a1 x.2.1.length c1,.slice a2 x.2.2.1.length c2]++vs)]) (fun k s vs=>x.2.2.2.1.length - k) (0) ((yQ,y2)) ([]) (by exact ⟨by omega,rfl⟩) (.cons rfl (.cons rfl (.nil))) (.cons rfl (.cons rfl (.nil))) rfl fun k s vs hx ih=>?_;have aX:=cL (g:=g);obtain ⟨hx1,hvl⟩:=hx;refine S.seq<|S.region rfl<|O.op (.p rfl) (.lss rfl rfl)<|O.nil (S.seq ?_)
  first|refine S.cc rfl (fun gy=>?_) (fun gy=>?_)|refine S.b7 rfl (fun gy=>?_) (fun gy=>?_)
  ·have hk:k<x.2.2.2.1.length:=by omega
   have p8:=hx2.2 _ (List.getElem_mem hk);have hkey:=hkeys _ (List.getElem_mem hk);have eU:=SP hk;refine S.skip<|S.seq<|S.block<|S.seq<|S.region rfl<|O.b8 (.p rfl) underlying25 di rfl rfl rfl (bg) (h:=fun T3 Nr tJ Ea=>?_);obtain ⟨l1,m1,rfl,l2,l3⟩:=bW.sh Ea;have l3:=l3;refine O.op (.p rfl) (.bz isAgg31 aa rfl tJ) ?_;refine O.aM (.p rfl) (.alloc (cs:=[.string ⟨#[]⟩,.slice none 0 0]) zeroValue31 rfl) ?_;rintro _ _ ⟨gU,rfl,rfl⟩;refine O.bu rfl (.cZ aa rfl rfl rfl rfl ai aW) ?_;refine O.nil ?_;generalize x.2.2.2.1[k]=y at *;refine S.c7 (b:=gU) (cs' :=[.string (str y.1),.slice l1 y.2.1.length m1]) ai rfl ?_;refine S.cW ai fun g hs hm h5=>?_;replace hg:=Fr.aH hg hs;replace hR:=bp hR hm
   try replace h:=h.mono hs
   try replace h0:=h0.mono hs
   try replace k1:=k1.mono hs
   try replace k2:=k2.mono hs
   try replace bg:=bg.mono hs
   try replace hH:=hH.mono hs
   try replace hK:=hK.mono hs
   try replace h1:=h1.mono hs
   try replace ht:=ht.mono hs
   try replace h9:=h9.mono hs
   try replace tJ:=tJ.mono hs
   try replace l3:=l3.mono hs
   replace aX:=dH aX hm;clear hs hm;refine S.bB (L:=[0,1,2,5,6,3,4,7,8,9,10]) bA aa ?_;refine af.q 1 rfl<|.quiet (.p rfl) rfl (fun _=>.fieldAddr eA rfl)<|.quiet (.p rfl) rfl (fun _=>.loadAt bL rfl h5 rfl) ?_;refine .quiet (.p rfl) rfl (fun _=>.fieldAddr fG rfl)<|.quiet (.p rfl) rfl (fun _=>.loadAt ew rfl (h5.drop 1) rfl) ?_;refine af.pR (.p rfl) aa underlying9 underlying24 underlying5 rfl (by first|assumption|omega|(simp;done)|(simp;omega)) (fun BK BX=>?_);refine af.dw (.p rfl) aa rfl aa rfl rfl (bs:=[av ag.u8 5 (.slice BK y.1.length BX) y.1]) bf (fun m hm hd=>v_ ((vR hm).right hd) ah) ?_;rintro _ _ ⟨a31,iS,rfl,rfl⟩
   try simp only [an,aq,au]
   refine af.aB (.p rfl) aa rfl aa rfl rfl ((Wb l3 hH hK p8)) ?_;rintro _ _ ⟨uS,u0,rfl,rfl⟩
   try simp only [an,aq,au]
   refine af.ct (.p rfl) aa (T:=ag.val) (ys:=[.slice a31 (bytesOf y.1).length iS,.slice uS (ij y.2.1).length u0]) underlying109 iC aC rfl rfl ⟨⟨rfl,rfl⟩,⟨rfl,rfl⟩,trivial⟩ aC (fun a35 BY=>?_);refine af.gT (.p rfl) aa (T:=ag.val) underlying109 iC aC rfl rfl ai ai bJ bJ (fun a36 BZ=>?_);refine af.q 1 rfl<|aI.nil<|S.inBlock<|S.cB (A:=b6 (av ag.u8 5) (vs++[.slice a31 (bytesOf y.1).length iS,.slice uS (ij y.2.1).length u0]) (pJ (x.2.2.2.1.take (k+1)))) (bs:=[b6 (av ag.u8 5) vs (pJ (x.2.2.2.1.take k)),av ag.u8 5 (.slice a31 (bytesOf y.1).length iS) (bytesOf y.1),av ag.u8 5 (.slice uS (ij y.2.1).length u0) (ij y.2.1)]) bf (fun m st=>by rw [← eU];exact NO st) ?_;refine S.d_ (A:=av ag.u8 5 (.slice BK y.1.length BX) y.1) ai fun g hs hm ⟨_,x',s'⟩=>?_;have YX:=(fun s x=>aj.mono s (av.arr x)) s' x';clear x' s';replace hg:=Fr.aH hg hs;replace hR:=bp hR hm
   try replace h:=h.mono hs
   try replace h0:=h0.mono hs
   try replace k1:=k1.mono hs
   try replace k2:=k2.mono hs
   try replace bg:=bg.mono hs
   try replace hH:=hH.mono hs
   try replace hK:=hK.mono hs
   try replace h1:=h1.mono hs
   try replace ht:=ht.mono hs
   try replace h9:=h9.mono hs
   try replace tJ:=tJ.mono hs
   try replace l3:=l3.mono hs
   try replace h5:=h5.mono hs
   replace aX:=dH aX hm;clear hs hm;refine S.jr (T:=ag.val) (e:=24) (v' :=.slice a36 (3+2*(k+1)) BZ) (xs' :=[.slice nV 1 n4,.slice a1 x.2.1.length c1,.slice a2 x.2.2.1.length c2]++(vs++[.slice a31 (bytesOf y.1).length iS,.slice uS (ij y.2.1).length u0])) ai (by congr 1;simp only [List.length_cons,List.length_nil,hvl];omega) bI ?_;refine S.slot 3 (v' :=.slice a36 (3+2*(k+1)) BZ) rfl (by congr 1;simp only [List.length_cons,List.length_nil,hvl];omega) ?_;refine S.region rfl<|O.op (.p rfl) (.add rfl rfl (IntWalk.i64_in _ ah))<|O.q 1 rfl<|O.nil ?_;exact S.ic aX (S.pw (ih (k+1) ((a36,BZ)) ((vs++[.slice a31 (bytesOf y.1).length iS,.slice uS (ij y.2.1).length u0])) (by exact ⟨by omega,by rw [List.length_append,hvl];simp only [List.length_cons,List.length_nil];omega⟩) ah))
  ·clear ih
   have hk:k=x.2.2.2.1.length:=by omega
   subst hk;rw [List.take_length];refine S.exit rfl<|S.seq<|S.fo ai fun g hs hm hpv=>?_;replace hg:=Fr.aH hg hs;replace hR:=bp hR hm
   try replace h:=h.mono hs
   try replace h0:=h0.mono hs
   try replace k1:=k1.mono hs
   try replace k2:=k2.mono hs
   try replace bg:=bg.mono hs
   try replace hH:=hH.mono hs
   try replace hK:=hK.mono hs
   try replace h1:=h1.mono hs
   try replace ht:=ht.mono hs
   try replace h9:=h9.mono hs
   replace aX:=dH aX hm;clear hs hm;refine S.d_ (A:=b6 (av ag.u8 5) vs (pJ x.2.2.2.1)) ai fun g hs hm ⟨_,x',s'⟩=>?_;have he:=NN s' x';clear x' s';replace hg:=Fr.aH hg hs;replace hR:=bp hR hm
   try replace h:=h.mono hs
   try replace h0:=h0.mono hs
   try replace k1:=k1.mono hs
   try replace k2:=k2.mono hs
   try replace bg:=bg.mono hs
   try replace hH:=hH.mono hs
   try replace hK:=hK.mono hs
   try replace h1:=h1.mono hs
   try replace ht:=ht.mono hs
   try replace h9:=h9.mono hs
   try replace hpv:=hpv.mono hs
   replace aX:=dH aX hm;clear hs hm;have hpa:aj (ag.slice ag.u8) g.h (.slice s.1 (3+2*x.2.2.2.1.length) s.2) (yb x):=aj.rows hpv ⟨ht,k1,k2,he⟩;have fI:=Jx x.2.2.2.1 hkeys;have hfl:(yb x).flatten.length≤10000000000:=by unfold yb;simp only [List.flatten_append,List.flatten_cons,List.flatten_nil,List.length_append,List.length_cons,List.length_nil];omega
   refine S.region rfl<|O.q 1 rfl<|O.aB (.p rfl) rfl aa rfl rfl ((yy hpa hH hK ah)) ?_;rintro _ _ ⟨a39,B0,rfl,rfl⟩
   try simp only [an,aq,au]
   refine O.q 1 rfl<|O.nil ?_;have e1:=JX e;have e2:(fP x).length=64:=(Ar x).2 e;refine S.jr (T:=ag.u8) (e:=5) (v' :=.slice a39 (fP x).length B0) (xs' :=fP x) ai (by rw [e2]) e1.symm ?_;exact S.rt results22 rfl hR ⟨a39,B0,by rw [e2],rfl⟩
 ·have e1:=JW e
  refine S.region rfl<|O.op (.p rfl) (.bz isAgg27 aa rfl h1) ?_;refine O.aB (.p rfl) rfl aa rfl rfl ((JP h0 hx0 (fun y hy=>by have:=hx2.2 y hy;omega))) ?_;rintro _ _ ⟨rfl,rfl⟩
  try simp only [an,aq,au]
  refine O.aN 7 rfl (by exact decide_eq_false e) ?_;refine O.op (.p rfl) (.not rfl)<|O.nil<|S.bx rfl<|S.seq<|S.region rfl<|O.q 1 rfl<|O.nil<|S.gh (T:=ag.u8) (e:=5) ?_;refine S.jr (T:=ag.u8) (e:=5) (v' :=.slice none (fP x).length 0) (xs' :=fP x) ai (by rw [e1];rfl) e1.symm ?_;exact S.rt results22 rfl hR ⟨none,0,by rw [e1];rfl,rfl⟩
def iQ (c:UInt8):Bool:=c.toNat ==48 ||c.toNat ==49
def lR:List Value:=(List.range 256).map fun i=>.bool (i ==48 ||i ==49)
theorem Mx (c:UInt8):lR[c.toNat]?=some (.bool (iQ c)):=by
 have:=c.toNat_lt;simp only [lR,iQ,List.getElem?_map];rw [List.getElem?_range ah];rfl
theorem GN {c:UInt8}:iQ c=true↔c=48∨c=49:=by
 unfold iQ;rw [Bool.or_eq_true,beq_iff_eq,beq_iff_eq]
 constructor
 ·rintro (h|h)
  ·exact .inl (UInt8.toNat_inj.1 h)
  ·exact .inr (UInt8.toNat_inj.1 h)
 ·rintro (rfl|rfl)
  ·exact .inl rfl
  ·exact .inr rfl
theorem zN {r:Fr} {b:Nat} {c:UInt8} (h:At r ⟨b,0,none⟩ lR):ay prog 312 #[.pointer (some ⟨b,0,none⟩),bD c] r [] (aL fun v U=>v=.bool (iQ c)∧U=[]):=by
 have hc:=c.toNat_lt;refine ay.of (n:=10) _ rfl func312 rfl rfl rfl fun g hg R hR=>?_;have h:=h.mono hg;refine S.seq<|S.region rfl<|O.q 1 rfl<|O.nil<|S.seq<|S.region rfl<|O.q 2 rfl<|O.op (.p rfl) (.nilCheck rfl)<|O.op (.p rfl) (.kN (j:=c.toNat) underlying310 FF rfl rfl rfl ah)<|O.op (.p rfl) (.load ji rfl (h.at (Mx c))) ?_;refine O.q 1 rfl<|O.nil ?_;exact S.rt results312 rfl hR ⟨rfl,rfl⟩
theorem uu (l:List UInt8):(str l).size=l.length:=by simp
theorem WO {s:List UInt8} {i:Nat} (hi:i<s.length) (h:∀ j (q:j<s.length),s.length - i≤j→iQ s[j]=true) (e:iQ (s[s.length - i - 1]'ah)=true):∀ j (q:j<s.length),s.length - (i+1)≤j→iQ s[j]=true:=fun j q w=>by
 rcases Nat.lt_or_ge j (s.length - i) with w' |w'
 ·have:j=s.length - i - 1:=by omega
  subst this;exact e
 ·exact h j q w'
theorem Xg {r:Fr} {b:Nat} {s:List UInt8} (h:At r ⟨b,0,none⟩ lR) (hl:s.length≤1000000000000):ay prog 247 #[.string (str s),.pointer (some ⟨b,0,none⟩)] r [] (aL fun v U=>∃ k,k≤s.length∧v=.string (str (s.take k))∧(∀ j (q:j<s.length),k≤j→iQ s[j]=true)∧(∀ q:k - 1<s.length,0<k→iQ s[k - 1]=false)∧U=[]):=by
 have h0:=h;refine ay.of (n:=22) _ rfl func247 rfl rfl rfl fun g hg R hR=>?_;have h:=h.mono hg;refine S.seq<|S.region rfl<|O.q 1 rfl<|O.nil<|S.seq<|S.block<|S.slot 0 (v' :=.string (str (s.take (s.length - 0)))) rfl (by rw [Nat.sub_zero,List.take_length]) ?_;refine S.e6 (ι:=Nat) (fun i=>i≤s.length∧∀ j (q:j<s.length),s.length - i≤j→iQ s[j]=true) (fun i=>[(0,.string (str (s.take (s.length - i))))]) [(1,_)] (fun i=>[]) (fun i=>s.length - i) (0) (by exact ⟨by omega,fun j q w=>by omega⟩) (.cons rfl (.nil)) (.cons rfl (.nil)) rfl fun i hx ih=>?_;have aX:=cL (g:=g);obtain ⟨hx1,hall⟩:=hx;have jF:(s.take (s.length - i)).length=s.length - i:=by rw [List.length_take];omega
 have xL:∀ q:s.length - i - 1<(s.take (s.length - i)).length,(s.take (s.length - i))[s.length - i - 1]=s[s.length - i - 1]'ah:=fun q=>List.getElem_take
 by_cases hi:i<s.length
 ·have hj:s.length - i - 1<(s.take (s.length - i)).length:=by omega
  have hsz:(str (s.take (s.length - i))).size=s.length - i:=by rw [uu,jF]
  cases e:iQ (s[s.length - i - 1]'ah) with
  |true =>
   refine S.seq<|S.seq<|S.region rfl<|O.q 1 rfl<|O.op (.p rfl) (.c6 rfl underlying9 rfl)<|O.op (.p rfl) (.gtr rfl rfl)<|O.sT 7 rfl (by exact decide_eq_true (by rw [hsz];omega)) ?_;refine O.nil<|S.bx rfl<|S.skip<|S.block<|S.seq<|S.seq<|S.region rfl<|O.q 3 rfl<|O.op (.p rfl) (.c6 rfl underlying9 rfl)<|O.op (.p rfl) (.sub rfl rfl (IntWalk.i64_in _ ah))<|O.slot 12 (v' :=.int .i64 ((s.length - i - 1:Nat):Int)) rfl (by exact congrArg (Value.int .i64) (by rw [hsz];omega)) ?_;refine O.op (.p rfl) (.vD (j:=s.length - i - 1) underlying9 rfl rfl wj bJ) ?_;refine O.slot 13 (v' :=bD (s[s.length - i - 1]'ah)) rfl (by exact congrArg bD (xL hj)) ?_;refine O.aB (.p rfl) rfl aa rfl rfl ((zN (h0.mono hg))) ?_;rintro _ _ ⟨rfl,rfl⟩
   try simp only [an,aq,au]
   refine O.sT 14 rfl (by exact e) ?_;refine O.op (.p rfl) (.not rfl)<|O.nil<|S.aQ rfl<|S.skip<|S.region rfl<|O.q 2 rfl<|O.op (.p rfl) (.c6 rfl underlying9 rfl)<|O.op (.p rfl) (.sub rfl rfl (IntWalk.i64_in _ ah))<|O.slot 19 (v' :=.int .i64 ((s.length - i - 1:Nat):Int)) rfl (by exact congrArg (Value.int .i64) (by rw [hsz];omega)) ?_;refine O.K8 (b:=s.length - i - 1) (.p rfl) underlying9 rfl rfl (show _=(((s.length - i - 1):Nat):Int) by omega) bJ ?_;refine O.q 1 rfl<|O.nil<|S.inBlock<|S.slot 0 (v' :=.string (str (s.take (s.length - (i+1))))) rfl (by rw [List.take_take,show min (s.length - i - 1) (s.length - i)=s.length - (i+1) from by omega]) ?_;exact S.dz (ih (i+1) (by exact ⟨by omega,WO hi hall e⟩) ah)
  |false =>
   refine S.seq<|S.seq<|S.region rfl<|O.q 1 rfl<|O.op (.p rfl) (.c6 rfl underlying9 rfl)<|O.op (.p rfl) (.gtr rfl rfl)<|O.sT 7 rfl (by exact decide_eq_true (by rw [hsz];omega)) ?_;refine O.nil<|S.bx rfl<|S.skip<|S.block<|S.seq<|S.seq<|S.region rfl<|O.q 3 rfl<|O.op (.p rfl) (.c6 rfl underlying9 rfl)<|O.op (.p rfl) (.sub rfl rfl (IntWalk.i64_in _ ah))<|O.slot 12 (v' :=.int .i64 ((s.length - i - 1:Nat):Int)) rfl (by exact congrArg (Value.int .i64) (by rw [hsz];omega)) ?_;refine O.op (.p rfl) (.vD (j:=s.length - i - 1) underlying9 rfl rfl wj bJ) ?_;refine O.slot 13 (v' :=bD (s[s.length - i - 1]'ah)) rfl (by exact congrArg bD (xL hj)) ?_;refine O.aB (.p rfl) rfl aa rfl rfl ((zN (h0.mono hg))) ?_;rintro _ _ ⟨rfl,rfl⟩
   try simp only [an,aq,au]
   refine O.aN 14 rfl (by exact e) ?_;refine O.op (.p rfl) (.not rfl)<|O.nil<|S.bx rfl<|S.exit rfl<|S.seq<|S.region rfl<|O.q 2 rfl<|O.nil ?_;exact S.rt results247 rfl hR ⟨s.length - i,by omega,rfl,hall,fun _ _=>e,rfl⟩
 ·have hii:i=s.length:=by omega
  have hsz:(str (s.take (s.length - i))).size=0:=by rw [hii];simp
  refine S.seq<|S.seq<|S.region rfl<|O.q 1 rfl<|O.op (.p rfl) (.c6 rfl underlying9 rfl)<|O.op (.p rfl) (.gtr rfl rfl)<|O.aN 7 rfl (by exact decide_eq_false (by rw [hsz];omega)) ?_;refine O.nil<|S.aQ rfl<|S.exit rfl<|S.seq<|S.region rfl<|O.q 2 rfl<|O.nil ?_;exact S.rt results247 rfl hR ⟨s.length - i,by omega,rfl,hall,fun _ w=>by omega,rfl⟩
theorem Pm {s:List UInt8} {i:Nat} (hi:i<s.length) (h:∀ j (q:j<s.length),j<i→iQ s[j]=true) (e:iQ s[i]=true):∀ j (q:j<s.length),j<i+1→iQ s[j]=true:=fun j q w=>by
 rcases Nat.lt_or_ge j i with w' |w'
 ·exact h j q w'
 ·have:j=i:=by omega
  subst this;exact e
theorem Xf {r:Fr} {b:Nat} {s:List UInt8} (h:At r ⟨b,0,none⟩ lR) (hl:s.length≤1000000000000):ay prog 246 #[.string (str s),.pointer (some ⟨b,0,none⟩)] r [] (aL fun v U=>∃ k,k≤s.length∧v=.string (str (s.drop k))∧(∀ j (q:j<s.length),j<k→iQ s[j]=true)∧(∀ q:k<s.length,iQ s[k]=false)∧U=[]):=by
 have h0:=h;refine ay.of (n:=16) _ rfl func246 rfl rfl rfl fun g hg R hR=>?_;have h:=h.mono hg;refine S.seq<|S.region rfl<|O.q 1 rfl<|O.nil<|S.seq<|S.block<|S.slot 0 (v' :=.string (str (s.drop 0))) rfl rfl ?_;refine S.e6 (ι:=Nat) (fun i=>i≤s.length∧∀ j (q:j<s.length),j<i→iQ s[j]=true) (fun i=>[(0,.string (str (s.drop i)))]) [(1,_)] (fun i=>[]) (fun i=>s.length - i) (0) (by exact ⟨by omega,fun j q w=>by omega⟩) (.cons rfl (.nil)) (.cons rfl (.nil)) rfl fun i hx ih=>?_;have aX:=cL (g:=g);obtain ⟨hx1,hall⟩:=hx;have hsz:(str (s.drop i)).size=s.length - i:=by rw [uu,List.length_drop]
 have hdl:(s.drop i).length=s.length - i:=List.length_drop
 by_cases hi:i<s.length
 ·have xL:(s.drop i)[0]'ah=s[i]:=by rw [List.getElem_drop];simp
  cases e:iQ s[i] with
  |true =>
   refine S.seq<|S.seq<|S.region rfl<|O.q 1 rfl<|O.op (.p rfl) (.c6 rfl underlying9 rfl)<|O.op (.p rfl) (.gtr rfl rfl)<|O.sT 7 rfl (by exact decide_eq_true (by rw [hsz];omega)) ?_;refine O.nil<|S.bx rfl<|S.skip<|S.block<|S.seq<|S.seq<|S.region rfl<|O.q 2 rfl<|O.op (.p rfl) (.vD (j:=0) underlying9 rfl rfl wj bJ) ?_;refine O.slot 10 (v' :=bD s[i]) rfl (by exact congrArg bD xL) ?_;refine O.aB (.p rfl) rfl aa rfl rfl ((zN (h0.mono hg))) ?_;rintro _ _ ⟨rfl,rfl⟩
   try simp only [an,aq,au]
   refine O.sT 11 rfl (by exact e) ?_;refine O.op (.p rfl) (.not rfl)<|O.nil<|S.aQ rfl<|S.skip<|S.region rfl<|O.q 1 rfl<|O.WA (a:=1) (.p rfl) underlying9 rfl rfl (show _=(((1):Nat):Int) by omega) bJ ?_;refine O.q 1 rfl<|O.nil<|S.inBlock<|S.slot 0 (v' :=.string (str (s.drop (i+1)))) rfl (by rw [List.drop_drop]) ?_;exact S.dz (ih (i+1) (by exact ⟨by omega,Pm hi hall e⟩) ah)
  |false =>
   refine S.seq<|S.seq<|S.region rfl<|O.q 1 rfl<|O.op (.p rfl) (.c6 rfl underlying9 rfl)<|O.op (.p rfl) (.gtr rfl rfl)<|O.sT 7 rfl (by exact decide_eq_true (by rw [hsz];omega)) ?_;refine O.nil<|S.bx rfl<|S.skip<|S.block<|S.seq<|S.seq<|S.region rfl<|O.q 2 rfl<|O.op (.p rfl) (.vD (j:=0) underlying9 rfl rfl wj bJ) ?_;refine O.slot 10 (v' :=bD s[i]) rfl (by exact congrArg bD xL) ?_;refine O.aB (.p rfl) rfl aa rfl rfl ((zN (h0.mono hg))) ?_;rintro _ _ ⟨rfl,rfl⟩
   try simp only [an,aq,au]
   refine O.aN 11 rfl (by exact e) ?_;refine O.op (.p rfl) (.not rfl)<|O.nil<|S.bx rfl<|S.exit rfl<|S.seq<|S.region rfl<|O.q 2 rfl<|O.nil ?_;exact S.rt results246 rfl hR ⟨i,by omega,rfl,hall,fun _=>e,rfl⟩
 ·have hii:i=s.length:=by omega
  refine S.seq<|S.seq<|S.region rfl<|O.q 1 rfl<|O.op (.p rfl) (.c6 rfl underlying9 rfl)<|O.op (.p rfl) (.gtr rfl rfl)<|O.aN 7 rfl (by exact decide_eq_false (by rw [hsz];omega)) ?_;refine O.nil<|S.aQ rfl<|S.exit rfl<|S.seq<|S.region rfl<|O.q 2 rfl<|O.nil ?_;exact S.rt results246 rfl hR ⟨i,by omega,rfl,hall,fun w=>by omega,rfl⟩
theorem rF:lR.length=256:=by simp [lR]
theorem GO:∀ v∈lR,v.oneCell' =true:=fun v hv=>by
 obtain ⟨i,_,rfl⟩:=List.mem_map.1 hv;rfl
theorem Th {r:Fr}:ay prog 245 #[.string (str [48,49])] r [] (aL fun v U=>v=.tuple #[.agg lR.toArray,.bool true]∧U=[]):=by
 refine ay.of (n:=21) _ rfl func245 rfl rfl rfl fun g hg R hR=>?_
 refine S.seq<|S.region rfl<|O.aM (.p rfl) (.alloc (cs:=[.bool false,.bool false,.bool false,.bool false,.bool false,.bool false,.bool false,.bool false,.bool false,.bool false,.bool false,.bool false,.bool false,.bool false,.bool false,.bool false,.bool false,.bool false,.bool false,.bool false,.bool false,.bool false,.bool false,.bool false,.bool false,.bool false,.bool false,.bool false,.bool false,.bool false,.bool false,.bool false,.bool false,.bool false,.bool false,.bool false,.bool false,.bool false,.bool false,.bool false,.bool false,.bool false,.bool false,.bool false,.bool false,.bool false,.bool false,.bool false,.bool false,.bool false,.bool false,.bool false,.bool false,.bool false,.bool false,.bool false,.bool false,.bool false,.bool false,.bool false,.bool false,.bool false,.bool false,.bool false,.bool false,.bool false,.bool false,.bool false,.bool false,.bool false,.bool false,.bool false,.bool false,.bool false,.bool false,.bool false,.bool false,.bool false,.bool false,.bool false,.bool false,.bool false,.bool false,.bool false,.bool false,.bool false,.bool false,.bool false,.bool false,.bool false,.bool false,.bool false,.bool false,.bool false,.bool false,.bool false,.bool false,.bool false,.bool false,.bool false,.bool false,.bool false,.bool false,.bool false,.bool false,.bool false,.bool false,.bool false,.bool false,.bool false,.bool false,.bool false,.bool false,.bool false,.bool false,.bool false,.bool false,.bool false,.bool false,.bool false,.bool false,.bool false,.bool false,.bool false,.bool false,.bool false,.bool false,.bool false,.bool false,.bool false,.bool false,.bool false,.bool false,.bool false,.bool false,.bool false,.bool false,.bool false,.bool false,.bool false,.bool false,.bool false,.bool false,.bool false,.bool false,.bool false,.bool false,.bool false,.bool false,.bool false,.bool false,.bool false,.bool false,.bool false,.bool false,.bool false,.bool false,.bool false,.bool false,.bool false,.bool false,.bool false,.bool false,.bool false,.bool false,.bool false,.bool false,.bool false,.bool false,.bool false,.bool false,.bool false,.bool false,.bool false,.bool false,.bool false,.bool false,.bool false,.bool false,.bool false,.bool false,.bool false,.bool false,.bool false,.bool false,.bool false,.bool false,.bool false,.bool false,.bool false,.bool false,.bool false,.bool false,.bool false,.bool false,.bool false,.bool false,.bool false,.bool false,.bool false,.bool false,.bool false,.bool false,.bool false,.bool false,.bool false,.bool false,.bool false,.bool false,.bool false,.bool false,.bool false,.bool false,.bool false,.bool false,.bool false,.bool false,.bool false,.bool false,.bool false,.bool false,.bool false,.bool false,.bool false,.bool false,.bool false,.bool false,.bool false,.bool false,.bool false,.bool false,.bool false,.bool false,.bool false,.bool false,.bool false,.bool false,.bool false,.bool false,.bool false,.bool false,.bool false,.bool false,.bool false,.bool false,.bool false,.bool false,.bool false,.bool false,.bool false,.bool false,.bool false,.bool false,.bool false,.bool false,.bool false]) zeroValue310 rfl) ?_
 rintro _ _ ⟨b2,rfl,rfl⟩;refine O.q 1 rfl<|O.nil<|S.seq<|S.seq<|S.region rfl<|O.q 1 rfl<|O.nil<|S.block<|S.c7 (b:=b2) (cs' :=List.replicate 256 (.bool false)) ai rfl ?_;refine S.Lw<|S.seq<|S.seq<|S.region rfl<|O.q 2 rfl<|O.op (.p rfl) (.c6 rfl underlying9 rfl)<|O.op (.p rfl) (.lss rfl rfl)<|O.sT 9 rfl aK ?_;refine O.nil<|S.bx rfl<|S.skip<|S.seq<|S.block<|S.seq<|S.region rfl<|O.q 2 rfl<|O.op (.p rfl) (.vD (j:=0) underlying9 rfl rfl wj bJ) ?_;refine O.slot 14 (v' :=.int .u8 48) rfl aK ?_;refine O.q 1 rfl<|O.nil<|S.seq<|S.seq<|S.region rfl<|O.q 1 rfl<|O.op (.p rfl) (.geq rfl rfl)<|O.aN 16 rfl aK ?_;refine O.nil<|S.aQ rfl<|S.skip<|S.region rfl<|O.q 1 rfl<|O.op (.p rfl) (.p_ (j:=48) underlying310 FF rfl rfl (show _=(((48):Nat):Int) by omega) ah)<|O.bu rfl (.bn ji rfl rfl bq ai aW) ?_;refine O.nil<|S.inBlock<|S.region rfl<|O.q 1 rfl<|O.op (.p rfl) (.add rfl rfl (IntWalk.i64_in _ ah))<|O.q 1 rfl<|O.nil<|S.c7 (b:=b2) (cs' :=(List.replicate 256 (.bool false)).set 48 (.bool true)) ai rfl ?_;refine S.Fu<|S.seq<|S.seq<|S.region rfl<|O.q 2 rfl<|O.op (.p rfl) (.c6 rfl underlying9 rfl)<|O.op (.p rfl) (.lss rfl rfl)<|O.sT 9 rfl aK ?_;refine O.nil<|S.bx rfl<|S.skip<|S.seq<|S.block<|S.seq<|S.region rfl<|O.q 2 rfl<|O.op (.p rfl) (.vD (j:=1) underlying9 rfl rfl wj bJ) ?_
 refine O.slot 14 (v' :=.int .u8 49) rfl aK ?_;refine O.q 1 rfl<|O.nil<|S.seq<|S.seq<|S.region rfl<|O.q 1 rfl<|O.op (.p rfl) (.geq rfl rfl)<|O.aN 16 rfl aK ?_;refine O.nil<|S.aQ rfl<|S.skip<|S.region rfl<|O.q 1 rfl<|O.op (.p rfl) (.p_ (j:=49) underlying310 FF rfl rfl (show _=(((49):Nat):Int) by omega) ah)<|O.bu rfl (.bn ji rfl rfl bq ai aW) ?_;refine O.nil<|S.inBlock<|S.region rfl<|O.q 1 rfl<|O.op (.p rfl) (.add rfl rfl (IntWalk.i64_in _ ah))<|O.q 1 rfl<|O.nil<|S.c7 (b:=b2) (cs' :=lR) ai rfl ?_;refine S.Fu<|S.seq<|S.seq<|S.region rfl<|O.q 2 rfl<|O.op (.p rfl) (.c6 rfl underlying9 rfl)<|O.op (.p rfl) (.lss rfl rfl)<|O.aN 9 rfl aK ?_;refine O.nil<|S.aQ rfl<|S.exit rfl<|S.seq<|S.region rfl<|O.op (.p rfl) (.r_ (news:=lR) isAgg310 (by rw [rF];kernel_rfl) rfl ai (by rw [List.drop_zero,List.take_length])) ?_;refine O.bu rfl (.cZ (news:=lR) (by rw [rF];kernel_rfl) rfl rfl sO (List.all_eq_true.2 GO) ai (by rw [rF];decide)) ?_;refine O.q 1 rfl<|O.nil<|S.c7 (b:=b2) (cs' :=lR) ai (by rw [List.take_zero,List.nil_append,List.drop_eq_nil_of_le (by rw [rF];decide),List.append_nil]) ?_;refine S.sv results245 rfl rfl ai (fS.agg isAgg310 (by rw [rF];kernel_rfl)) fun w hw=>Holds.end_ hR hw ?_;exact pk ⟨rfl,rfl⟩
theorem Xh {s:List UInt8} {k m:Nat} (hk:k≤s.length) (h1:∀ j (q:j<s.length),k≤j→iQ s[j]=true) (h2:∀ q:k - 1<s.length,0<k→iQ s[k - 1]=false)
  (hm:m≤(s.take k).length) (h3:∀ j (q:j<(s.take k).length),j<m→iQ (s.take k)[j]=true) (h4:∀ q:m<(s.take k).length,iQ (s.take k)[m]=false):(s.take k).drop m=[]↔∀ c∈s,c=48∨c=49:=by
 have hl:(s.take k).length=k:=by rw [List.length_take];omega
 constructor
 ·intro e c hc
  have hmk:m=k:=by have:=congrArg List.length e;rw [List.length_drop,hl] at this;simp at this;omega
  obtain ⟨j,q,rfl⟩:=List.mem_iff_getElem.1 hc;rw [← GN]
  rcases Nat.lt_or_ge j k with w|w
  ·have:=h3 j ah ah
   rw [List.getElem_take] at this;exact this
  ·exact h1 j q w
 ·intro w
  have h0:k=0:=Nat.eq_zero_of_not_pos fun hp=>by
   have q:k - 1<s.length:=by omega
   have:=h2 q hp;rw [GN.2 (w _ (List.getElem_mem q))] at this;cases this
  subst h0;simp
theorem Lp {r:Fr} {s:List UInt8} (hl:s.length≤1000000000000):ay prog 163 #[.string (str s),.string (str [48,49])] r [] (aL fun v U=>∃ t,v=.string (str t)∧(t=[]↔∀ c∈s,c=48∨c=49)∧U=[]):=by
 refine ay.of (n:=43) _ rfl func163 rfl rfl rfl fun g hg R hR=>?_
 by_cases h0:s=[]
 ·
  refine S.seq<|S.region rfl<|O.q 1 rfl<|O.nil<|S.seq<|S.seq<|S.region rfl<|O.q 1 rfl<|O.op (.p rfl) (.kV rfl rfl)<|O.sT 8 rfl (by simp [h0]) ?_;refine O.q 4 rfl<|O.nil<|S.bx rfl<|S.seq<|S.region rfl<|O.q 2 rfl<|O.nil ?_;exact S.rt results163 rfl hR ⟨s,rfl,⟨fun _=>by rw [h0];exact fun _ h=>(by cases h),fun _=>h0⟩,rfl⟩
 ·
  refine S.seq<|S.region rfl<|O.q 1 rfl<|O.nil<|S.seq<|S.seq<|S.region rfl<|O.q 1 rfl<|O.op (.p rfl) (.kV rfl rfl)<|O.aN 8 rfl (by exact decide_eq_false (fun q=>h0 (nR q))) ?_;refine O.q 2 rfl<|O.op (.g rfl rfl) (.kV rfl rfl)<|O.aN 11 rfl bI ?_;refine O.q 1 rfl<|O.nil<|S.aQ rfl<|S.skip<|S.seq<|S.seq<|S.region rfl<|O.q 1 rfl<|O.op (.p rfl) (.c6 rfl underlying9 rfl)<|O.op (.p rfl) (.eql rfl rfl)<|O.aN 16 rfl aK ?_;refine O.q 5 rfl<|O.nil<|S.aQ rfl<|S.skip<|S.seq<|S.seq<|S.region rfl<|O.q 1 rfl<|O.aB (.p rfl) rfl aa rfl rfl (Th) ?_;rintro _ _ ⟨rfl,rfl⟩
  try simp only [an,aq,au]
  refine O.q 3 rfl<|O.aM (.p rfl) (.alloc (cs:=[.bool false,.bool false,.bool false,.bool false,.bool false,.bool false,.bool false,.bool false,.bool false,.bool false,.bool false,.bool false,.bool false,.bool false,.bool false,.bool false,.bool false,.bool false,.bool false,.bool false,.bool false,.bool false,.bool false,.bool false,.bool false,.bool false,.bool false,.bool false,.bool false,.bool false,.bool false,.bool false,.bool false,.bool false,.bool false,.bool false,.bool false,.bool false,.bool false,.bool false,.bool false,.bool false,.bool false,.bool false,.bool false,.bool false,.bool false,.bool false,.bool false,.bool false,.bool false,.bool false,.bool false,.bool false,.bool false,.bool false,.bool false,.bool false,.bool false,.bool false,.bool false,.bool false,.bool false,.bool false,.bool false,.bool false,.bool false,.bool false,.bool false,.bool false,.bool false,.bool false,.bool false,.bool false,.bool false,.bool false,.bool false,.bool false,.bool false,.bool false,.bool false,.bool false,.bool false,.bool false,.bool false,.bool false,.bool false,.bool false,.bool false,.bool false,.bool false,.bool false,.bool false,.bool false,.bool false,.bool false,.bool false,.bool false,.bool false,.bool false,.bool false,.bool false,.bool false,.bool false,.bool false,.bool false,.bool false,.bool false,.bool false,.bool false,.bool false,.bool false,.bool false,.bool false,.bool false,.bool false,.bool false,.bool false,.bool false,.bool false,.bool false,.bool false,.bool false,.bool false,.bool false,.bool false,.bool false,.bool false,.bool false,.bool false,.bool false,.bool false,.bool false,.bool false,.bool false,.bool false,.bool false,.bool false,.bool false,.bool false,.bool false,.bool false,.bool false,.bool false,.bool false,.bool false,.bool false,.bool false,.bool false,.bool false,.bool false,.bool false,.bool false,.bool false,.bool false,.bool false,.bool false,.bool false,.bool false,.bool false,.bool false,.bool false,.bool false,.bool false,.bool false,.bool false,.bool false,.bool false,.bool false,.bool false,.bool false,.bool false,.bool false,.bool false,.bool false,.bool false,.bool false,.bool false,.bool false,.bool false,.bool false,.bool false,.bool false,.bool false,.bool false,.bool false,.bool false,.bool false,.bool false,.bool false,.bool false,.bool false,.bool false,.bool false,.bool false,.bool false,.bool false,.bool false,.bool false,.bool false,.bool false,.bool false,.bool false,.bool false,.bool false,.bool false,.bool false,.bool false,.bool false,.bool false,.bool false,.bool false,.bool false,.bool false,.bool false,.bool false,.bool false,.bool false,.bool false,.bool false,.bool false,.bool false,.bool false,.bool false,.bool false,.bool false,.bool false,.bool false,.bool false,.bool false,.bool false,.bool false,.bool false,.bool false,.bool false,.bool false,.bool false,.bool false,.bool false,.bool false,.bool false,.bool false,.bool false,.bool false,.bool false,.bool false,.bool false,.bool false,.bool false,.bool false,.bool false,.bool false,.bool false,.bool false,.bool false,.bool false]) zeroValue310 rfl) ?_
  rintro _ _ ⟨gU,rfl,rfl⟩;refine O.bu rfl (.cZ (news:=lR) (by rw [rF];kernel_rfl) rfl rfl sO (List.all_eq_true.2 GO) ai (by rw [rF];decide)) ?_;refine O.q 1 rfl<|O.nil<|S.seq<|S.c7 (b:=gU) (cs' :=lR) ai (by rw [List.take_zero,List.nil_append,List.drop_eq_nil_of_le (by rw [rF];decide),List.append_nil]) ?_;refine S.cW ai fun g hs hm h5=>?_;replace hg:=Fr.aH hg hs;replace hR:=bp hR hm;clear hs hm;refine S.region rfl<|O.q 1 rfl<|O.sT 34 rfl aK ?_;refine O.nil<|S.bx rfl<|S.seq<|S.region rfl<|O.q 1 rfl<|O.aB (.p rfl) rfl aa rfl rfl ((Xg h5 hl)) ?_;rintro v36 _ ⟨k,hk,rfl,h1,h2,rfl⟩
  try simp only [an,aq,au]
  refine O.aB (.p rfl) rfl aa rfl rfl ((Xf h5 (by rw [List.length_take];omega))) ?_;rintro v37 _ ⟨m,hm,rfl,h3,h4,rfl⟩
  try simp only [an,aq,au]
  refine O.q 1 rfl<|O.nil ?_;exact S.rt results163 rfl hR ⟨(s.take k).drop m,rfl,Xh hk h1 h2 hm h3 h4,rfl⟩
theorem W1 {g:bk} {bH bT:Nat} {x:Value} {fT :TypeId} {w:World} {R:Ending→World→Prop} {U:List az} (hw:Holds w g (obj bT fT [x]::U)) (hR:∀ w,Holds w g (obj bT fT [x]::U)→R (.returned x) w) :
  CallsD prog 389 #[.pointer (some ⟨bH,0,none⟩),.pointer (some ⟨bT,0,none⟩)] .returning w (sP g bT R):=by
 refine (oa (R:=fun e w=>(∃ v,e=.returned v)∧Holds w g (obj bT fT [x]::U)) [.pointer (some ⟨bH,0,none⟩),.pointer (some ⟨bT,0,none⟩)] rfl func389 rfl rfl rfl rfl hw ?_).mono ?_
 rotate_left
 ·rintro e u' w' ⟨rfl,⟨v,rfl⟩,h⟩
  exact ⟨⟨v,rfl⟩,rfl,fT,x,U,h,hR w' h⟩
 refine S.seq<|S.region rfl<|O.q 1 rfl<|O.op (.p rfl) (.vK underlying20 rfl)<|O.nil<|S.aQ rfl<|S.skip<|S.ev results389 fun w hw=>?_;exact ⟨⟨_,rfl⟩,hw⟩
theorem W0 {g:bk} {bH bT b:Nat} {v x:Value} {made bad:Bool} {fT wA:TypeId} {w:World} {R:Ending→World→Prop} {U:List az} (hw:Holds w g (obj bT fT [x]::obj bH wA [.pointer (some ⟨b,0,none⟩)]::obj b 441 [v,.bool made,.bool bad]::U))
  (hR:∀ w,Holds w g (obj bT fT [.int .u8 0]::obj b 441 [v,.bool made,.bool true]::U)→R (.returned (.int .u8 0)) w) :
  CallsD prog 389 #[.pointer (some ⟨bH,0,none⟩),.pointer (some ⟨bT,0,none⟩)] (.panicking missing) w (sP g bT R):=by
 refine (oa (R:=fun e w=>(∃ v,e=.returned v)∧Holds w g (obj bT fT [.int .u8 0]::obj b 441 [v,.bool made,.bool true]::U)) [.pointer (some ⟨bH,0,none⟩),.pointer (some ⟨bT,0,none⟩)] rfl func389 rfl rfl rfl rfl hw ?_).mono ?_
 rotate_left
 ·rintro e u' w' ⟨rfl,⟨v,rfl⟩,h⟩
  exact ⟨⟨v,rfl⟩,rfl,fT,_,_,h,hR w' h⟩
 refine S.seq<|S.region rfl<|O.q 1 rfl<|O.op (.p rfl) (.vL underlying20 rfl)<|O.nil<|S.bx rfl<|S.seq<|S.seq<|S.region rfl<|O.q 1 rfl<|O.op (.p rfl) (.uV underlying459 rfl)<|O.q 3 rfl<|O.aM (.p rfl) (.alloc (cs:=[]) zeroValue459 rfl) ?_;rintro _ _ ⟨b3,rfl,rfl⟩;refine O.bu rfl (.cZ aa rfl rfl rfl rfl ai aW) ?_;refine O.q 1 rfl<|O.nil<|S.seq<|S.region rfl<|O.q 1 rfl<|O.op (.p rfl) (.not rfl)<|O.nil<|S.aQ rfl<|S.skip<|S.seq<|S.region rfl<|O.op (.p rfl) (.lo o9) ?_;refine O.op (.p rfl) (.nilCheck rfl)<|O.op (.p rfl) (.aD zx rfl)<|O.bu rfl (.bn ji rfl rfl bq ai aW) ?_;refine O.nil<|S.seq<|S.region rfl<|O.q 1 rfl<|O.nil<|S.region rfl<|O.q 1 rfl<|O.bu rfl (.bn lu rfl rfl bq ai aW) ?_;refine O.nil<|S.ev results389 fun w hw=>?_;exact ⟨⟨_,rfl⟩,hw.jU jx⟩
theorem WZ {r:Fr} {b f:Nat} {v:Value} {made bad:Bool} {first cap:Array Value} {K:Value→Value→List az→Prop} {X:Value→Prop} (hc:dA prog f=true) (pe:∀ u v' ζ,K u v' ζ→u.oneCell' =true)
  (con:made=true→bad=false→ay prog f (first++#[]++cap) r [obj b 441 [v,.bool true,.bool false]] (eL (fun u U=>∃ v' ζ,K u v' ζ∧U=obj b 441 [v',.bool true,.bool false]::ζ) (fun ch U=>ch=missing∧∃ v',X v' ∧U=[obj b 441 [v',.bool true,.bool false]]))) :
  ay prog 368 #[.pointer (some ⟨b,0,none⟩),.func (.func f) first cap] r [obj b 441 [v,.bool made,.bool bad]] (aL fun u U =>
   ((made && !bad)=false∧u=.int .u8 0∧U=[obj b 441 [v,.bool made,.bool bad]])∨(made=true∧bad=false∧∃ v' ζ,K u v' ζ∧U=obj b 441 [v',.bool true,.bool false]::ζ) ∨
   (made=true∧bad=false∧∃ v',X v' ∧u=.int .u8 0∧U=[obj b 441 [v',.bool true,.bool true]])):=by
 refine ay.of (n:=12) [.pointer (some ⟨b,0,none⟩),.func (.func f) first cap] rfl func368 rfl rfl rfl fun g hg R hR=>?_;refine S.seq<|S.region rfl<|O.aM (.p rfl) (.box (cs:=[_]) rfl rfl) ?_;rintro _ _ ⟨b2,rfl,rfl⟩;refine O.aM (.p rfl) (.alloc (cs:=[.int .u8 0]) zeroValue5 rfl) ?_;rintro _ _ ⟨b4,rfl,rfl⟩;refine O.nil<|S.seq<|S.seq<|S.region rfl<|O.op (.p rfl) (.lo o9) ?_;refine O.bM (.p rfl) rfl aa rfl rfl ai AO ?_;rintro _ _ ⟨rfl,rfl⟩
 try simp only [an,aq,au]
 refine O.op (.p rfl) ((by first|exact .lH rfl|exact .not rfl)) ?_;refine O.nil ?_
 first|refine S.cc rfl (fun h7=>?_) (fun h7=>?_)|refine S.b7 rfl (fun h7=>?_) (fun h7=>?_)
 ·refine S.seq<|S.region rfl<|O.op (.p rfl) (.lo lu) ?_
  refine O.bu rfl (.bn lu rfl rfl bq ai aW) ?_;refine O.nil<|S.Fw results368 lu rfl ai fun w hw=>Holds.end_ hR hw ?_;exact pk (.inl ⟨by revert h7;cases made<;>cases bad<;>simp,rfl,rfl⟩)
 ·obtain ⟨rfl,rfl⟩:made=true∧bad=false:=by revert h7;cases made<;>cases bad<;>simp
  refine S.skip<|S.seq<|S.region rfl<|O.op (.p rfl) (.jc rfl rfl)<|O.defer rfl rfl rfl rfl ?_;refine O.nil<|S.seq<|S.region rfl<|O.q 1 rfl<|O.B5 (.p rfl) rfl hc rfl rfl ai ((con rfl rfl).sub hg) (fun a ch ax w hF hX hW=>by (obtain ⟨rfl,v',w_,rfl⟩:=hX;exact vG results368 lu hF rfl bI aa (W0 (hW.jU jx) fun w hw=>Holds.end_ hR hw ⟨_,.inr (.inr ⟨rfl,rfl,v',w_,rfl,rfl⟩),by repeat (first|exact aS|exact aU|(apply aT;focus (repeat (first|exact aR|apply zt)))|apply aV)⟩))) ?_;rintro v11 _ ⟨v',ζ,hK,rfl⟩
  try simp only [an,aq,au]
  have hone:=pe _ _ _ hK;refine O.perm (List.Perm.cons _ List.perm_append_comm) ?_;simp only [List.cons_append,List.nil_append];refine O.bu rfl (.bn lu rfl rfl bq ai aW) ?_;refine O.nil<|S.q8 fun a w hf hd hw=>?_;exact vG results368 lu hf rfl bI aa (W1 hw fun w hw=>Holds.end_ hR hw ⟨_,.inr (.inl ⟨rfl,rfl,v',ζ,hK,rfl⟩),by repeat (first|exact aS|exact aU|(apply aT;focus (repeat (first|exact aR|apply zt)))|apply aV)⟩)
theorem W3 {g:bk} {bH bT:Nat} {x:Value} {fT :TypeId} {w:World} {R:Ending→World→Prop} {U:List az} (hw:Holds w g (obj bT fT [x]::U)) (hR:∀ w,Holds w g (obj bT fT [x]::U)→R (.returned x) w) :
  CallsD prog 392 #[.pointer (some ⟨bH,0,none⟩),.pointer (some ⟨bT,0,none⟩)] .returning w (sP g bT R):=by
 refine (oa (R:=fun e w=>(∃ v,e=.returned v)∧Holds w g (obj bT fT [x]::U)) [.pointer (some ⟨bH,0,none⟩),.pointer (some ⟨bT,0,none⟩)] rfl func392 rfl rfl rfl rfl hw ?_).mono ?_
 rotate_left
 ·rintro e u' w' ⟨rfl,⟨v,rfl⟩,h⟩
  exact ⟨⟨v,rfl⟩,rfl,fT,x,U,h,hR w' h⟩
 refine S.seq<|S.region rfl<|O.q 1 rfl<|O.op (.p rfl) (.vK underlying20 rfl)<|O.nil<|S.aQ rfl<|S.skip<|S.ev results392 fun w hw=>?_;exact ⟨⟨_,rfl⟩,hw⟩
theorem W2 {g:bk} {bH bT b:Nat} {v x:Value} {made bad:Bool} {fT wA:TypeId} {w:World} {R:Ending→World→Prop} {U:List az} (hw:Holds w g (obj bT fT [x]::obj bH wA [.pointer (some ⟨b,0,none⟩)]::obj b 441 [v,.bool made,.bool bad]::U))
  (hR:∀ w,Holds w g (obj bT fT [.int .i64 0]::obj b 441 [v,.bool made,.bool true]::U)→R (.returned (.int .i64 0)) w) :
  CallsD prog 392 #[.pointer (some ⟨bH,0,none⟩),.pointer (some ⟨bT,0,none⟩)] (.panicking missing) w (sP g bT R):=by
 refine (oa (R:=fun e w=>(∃ v,e=.returned v)∧Holds w g (obj bT fT [.int .i64 0]::obj b 441 [v,.bool made,.bool true]::U)) [.pointer (some ⟨bH,0,none⟩),.pointer (some ⟨bT,0,none⟩)] rfl func392 rfl rfl rfl rfl hw ?_).mono ?_
 rotate_left
 ·rintro e u' w' ⟨rfl,⟨v,rfl⟩,h⟩
  exact ⟨⟨v,rfl⟩,rfl,fT,_,_,h,hR w' h⟩
 refine S.seq<|S.region rfl<|O.q 1 rfl<|O.op (.p rfl) (.vL underlying20 rfl)<|O.nil<|S.bx rfl<|S.seq<|S.seq<|S.region rfl<|O.q 1 rfl<|O.op (.p rfl) (.uV underlying459 rfl)<|O.q 3 rfl<|O.aM (.p rfl) (.alloc (cs:=[]) zeroValue459 rfl) ?_;rintro _ _ ⟨b3,rfl,rfl⟩;refine O.bu rfl (.cZ aa rfl rfl rfl rfl ai aW) ?_;refine O.q 1 rfl<|O.nil<|S.seq<|S.region rfl<|O.q 1 rfl<|O.op (.p rfl) (.not rfl)<|O.nil<|S.aQ rfl<|S.skip<|S.seq<|S.region rfl<|O.op (.p rfl) (.lo o9) ?_;refine O.op (.p rfl) (.nilCheck rfl)<|O.op (.p rfl) (.aD zx rfl)<|O.bu rfl (.bn ji rfl rfl bq ai aW) ?_;refine O.nil<|S.seq<|S.region rfl<|O.q 1 rfl<|O.nil<|S.region rfl<|O.q 1 rfl<|O.bu rfl (.bn cv rfl rfl bq ai aW) ?_;refine O.nil<|S.ev results392 fun w hw=>?_;exact ⟨⟨_,rfl⟩,hw.jU jx⟩
theorem Lo {r:Fr} {b f:Nat} {v:Value} {made bad:Bool} {first cap:Array Value} {K:Value→Value→List az→Prop} {X:Value→Prop} (hc:dA prog f=true) (pe:∀ u v' ζ,K u v' ζ→u.oneCell' =true)
  (con:made=true→bad=false→ay prog f (first++#[]++cap) r [obj b 441 [v,.bool true,.bool false]] (eL (fun u U=>∃ v' ζ,K u v' ζ∧U=obj b 441 [v',.bool true,.bool false]::ζ) (fun ch U=>ch=missing∧∃ v',X v' ∧U=[obj b 441 [v',.bool true,.bool false]]))) :
  ay prog 374 #[.pointer (some ⟨b,0,none⟩),.func (.func f) first cap] r [obj b 441 [v,.bool made,.bool bad]] (aL fun u U =>
   ((made && !bad)=false∧u=.int .i64 0∧U=[obj b 441 [v,.bool made,.bool bad]])∨(made=true∧bad=false∧∃ v' ζ,K u v' ζ∧U=obj b 441 [v',.bool true,.bool false]::ζ) ∨
   (made=true∧bad=false∧∃ v',X v' ∧u=.int .i64 0∧U=[obj b 441 [v',.bool true,.bool true]])):=by
 refine ay.of (n:=12) [.pointer (some ⟨b,0,none⟩),.func (.func f) first cap] rfl func374 rfl rfl rfl fun g hg R hR=>?_;refine S.seq<|S.region rfl<|O.aM (.p rfl) (.box (cs:=[_]) rfl rfl) ?_;rintro _ _ ⟨b2,rfl,rfl⟩;refine O.aM (.p rfl) (.alloc (cs:=[.int .i64 0]) zeroValue3 rfl) ?_;rintro _ _ ⟨b4,rfl,rfl⟩;refine O.nil<|S.seq<|S.seq<|S.region rfl<|O.op (.p rfl) (.lo o9) ?_;refine O.bM (.p rfl) rfl aa rfl rfl ai AO ?_;rintro _ _ ⟨rfl,rfl⟩
 try simp only [an,aq,au]
 refine O.op (.p rfl) ((by first|exact .lH rfl|exact .not rfl)) ?_;refine O.nil ?_
 first|refine S.cc rfl (fun h7=>?_) (fun h7=>?_)|refine S.b7 rfl (fun h7=>?_) (fun h7=>?_)
 ·refine S.seq<|S.region rfl<|O.op (.p rfl) (.lo cv) ?_
  refine O.bu rfl (.bn cv rfl rfl bq ai aW) ?_;refine O.nil<|S.Fw results374 cv rfl ai fun w hw=>Holds.end_ hR hw ?_;exact pk (.inl ⟨by revert h7;cases made<;>cases bad<;>simp,rfl,rfl⟩)
 ·obtain ⟨rfl,rfl⟩:made=true∧bad=false:=by revert h7;cases made<;>cases bad<;>simp
  refine S.skip<|S.seq<|S.region rfl<|O.op (.p rfl) (.jc rfl rfl)<|O.defer rfl rfl rfl rfl ?_;refine O.nil<|S.seq<|S.region rfl<|O.q 1 rfl<|O.B5 (.p rfl) rfl hc rfl rfl ai ((con rfl rfl).sub hg) (fun a ch ax w hF hX hW=>by (obtain ⟨rfl,v',w_,rfl⟩:=hX;exact vG results374 cv hF rfl bI aa (W2 (hW.jU jx) fun w hw=>Holds.end_ hR hw ⟨_,.inr (.inr ⟨rfl,rfl,v',w_,rfl,rfl⟩),by repeat (first|exact aS|exact aU|(apply aT;focus (repeat (first|exact aR|apply zt)))|apply aV)⟩))) ?_;rintro v11 _ ⟨v',ζ,hK,rfl⟩
  try simp only [an,aq,au]
  have hone:=pe _ _ _ hK;refine O.perm (List.Perm.cons _ List.perm_append_comm) ?_;simp only [List.cons_append,List.nil_append];refine O.bu rfl (.bn cv rfl rfl bq ai aW) ?_;refine O.nil<|S.q8 fun a w hf hd hw=>?_;exact vG results374 cv hf rfl bI aa (W3 hw fun w hw=>Holds.end_ hR hw ⟨_,.inr (.inl ⟨rfl,rfl,v',ζ,hK,rfl⟩),by repeat (first|exact aS|exact aU|(apply aT;focus (repeat (first|exact aR|apply zt)))|apply aV)⟩)
theorem Xe {g:bk} {bH bT:Nat} {x:Value} {fT :TypeId} {w:World} {R:Ending→World→Prop} {U:List az} (hw:Holds w g (obj bT fT [x]::U)) (hR:∀ w,Holds w g (obj bT fT [x]::U)→R (.returned x) w) :
  CallsD prog 390 #[.pointer (some ⟨bH,0,none⟩),.pointer (some ⟨bT,0,none⟩)] .returning w (sP g bT R):=by
 refine (oa (R:=fun e w=>(∃ v,e=.returned v)∧Holds w g (obj bT fT [x]::U)) [.pointer (some ⟨bH,0,none⟩),.pointer (some ⟨bT,0,none⟩)] rfl func390 rfl rfl rfl rfl hw ?_).mono ?_
 rotate_left
 ·rintro e u' w' ⟨rfl,⟨v,rfl⟩,h⟩
  exact ⟨⟨v,rfl⟩,rfl,fT,x,U,h,hR w' h⟩
 refine S.seq<|S.region rfl<|O.q 1 rfl<|O.op (.p rfl) (.vK underlying20 rfl)<|O.nil<|S.aQ rfl<|S.skip<|S.ev results390 fun w hw=>?_;exact ⟨⟨_,rfl⟩,hw⟩
theorem Xd {g:bk} {bH bT b:Nat} {v x:Value} {made bad:Bool} {fT wA:TypeId} {w:World} {R:Ending→World→Prop} {U:List az} (hw:Holds w g (obj bT fT [x]::obj bH wA [.pointer (some ⟨b,0,none⟩)]::obj b 441 [v,.bool made,.bool bad]::U))
  (hR:∀ w,Holds w g (obj bT fT [.slice none 0 0]::obj b 441 [v,.bool made,.bool true]::U)→R (.returned (.slice none 0 0)) w) :
  CallsD prog 390 #[.pointer (some ⟨bH,0,none⟩),.pointer (some ⟨bT,0,none⟩)] (.panicking missing) w (sP g bT R):=by
 refine (oa (R:=fun e w=>(∃ v,e=.returned v)∧Holds w g (obj bT fT [.slice none 0 0]::obj b 441 [v,.bool made,.bool true]::U)) [.pointer (some ⟨bH,0,none⟩),.pointer (some ⟨bT,0,none⟩)] rfl func390 rfl rfl rfl rfl hw ?_).mono ?_
 rotate_left
 ·rintro e u' w' ⟨rfl,⟨v,rfl⟩,h⟩
  exact ⟨⟨v,rfl⟩,rfl,fT,_,_,h,hR w' h⟩
 refine S.seq<|S.region rfl<|O.q 1 rfl<|O.op (.p rfl) (.vL underlying20 rfl)<|O.nil<|S.bx rfl<|S.seq<|S.seq<|S.region rfl<|O.q 1 rfl<|O.op (.p rfl) (.uV underlying459 rfl)<|O.q 3 rfl<|O.aM (.p rfl) (.alloc (cs:=[]) zeroValue459 rfl) ?_;rintro _ _ ⟨b3,rfl,rfl⟩;refine O.bu rfl (.cZ aa rfl rfl rfl rfl ai aW) ?_;refine O.q 1 rfl<|O.nil<|S.seq<|S.region rfl<|O.q 1 rfl<|O.op (.p rfl) (.not rfl)<|O.nil<|S.aQ rfl<|S.skip<|S.seq<|S.region rfl<|O.op (.p rfl) (.lo o9) ?_;refine O.op (.p rfl) (.nilCheck rfl)<|O.op (.p rfl) (.aD zx rfl)<|O.bu rfl (.bn ji rfl rfl bq ai aW) ?_;refine O.nil<|S.seq<|S.region rfl<|O.q 1 rfl<|O.nil<|S.region rfl<|O.q 1 rfl<|O.bu rfl (.bn bc rfl rfl bq ai aW) ?_;refine O.nil<|S.ev results390 fun w hw=>?_;exact ⟨⟨_,rfl⟩,hw.jU jx⟩
theorem Xc {r:Fr} {b f:Nat} {v:Value} {made bad:Bool} {first cap:Array Value} {K:Value→Value→List az→Prop} {X:Value→Prop} (hc:dA prog f=true) (pe:∀ u v' ζ,K u v' ζ→u.oneCell' =true)
  (con:made=true→bad=false→ay prog f (first++#[]++cap) r [obj b 441 [v,.bool true,.bool false]] (eL (fun u U=>∃ v' ζ,K u v' ζ∧U=obj b 441 [v',.bool true,.bool false]::ζ) (fun ch U=>ch=missing∧∃ v',X v' ∧U=[obj b 441 [v',.bool true,.bool false]]))) :
  ay prog 370 #[.pointer (some ⟨b,0,none⟩),.func (.func f) first cap] r [obj b 441 [v,.bool made,.bool bad]] (aL fun u U =>
   ((made && !bad)=false∧u=.slice none 0 0∧U=[obj b 441 [v,.bool made,.bool bad]])∨(made=true∧bad=false∧∃ v' ζ,K u v' ζ∧U=obj b 441 [v',.bool true,.bool false]::ζ) ∨
   (made=true∧bad=false∧∃ v',X v' ∧u=.slice none 0 0∧U=[obj b 441 [v',.bool true,.bool true]])):=by
 refine ay.of (n:=12) [.pointer (some ⟨b,0,none⟩),.func (.func f) first cap] rfl func370 rfl rfl rfl fun g hg R hR=>?_;refine S.seq<|S.region rfl<|O.aM (.p rfl) (.box (cs:=[_]) rfl rfl) ?_;rintro _ _ ⟨b2,rfl,rfl⟩;refine O.aM (.p rfl) (.alloc (cs:=[.slice none 0 0]) zeroValue24 rfl) ?_;rintro _ _ ⟨b4,rfl,rfl⟩;refine O.nil<|S.seq<|S.seq<|S.region rfl<|O.op (.p rfl) (.lo o9) ?_;refine O.bM (.p rfl) rfl aa rfl rfl ai AO ?_;rintro _ _ ⟨rfl,rfl⟩
 try simp only [an,aq,au]
 refine O.op (.p rfl) ((by first|exact .lH rfl|exact .not rfl)) ?_;refine O.nil ?_
 first|refine S.cc rfl (fun h7=>?_) (fun h7=>?_)|refine S.b7 rfl (fun h7=>?_) (fun h7=>?_)
 ·refine S.seq<|S.region rfl<|O.op (.p rfl) (.lo bc) ?_
  refine O.bu rfl (.bn bc rfl rfl bq ai aW) ?_;refine O.nil<|S.Fw results370 bc rfl ai fun w hw=>Holds.end_ hR hw ?_;exact pk (.inl ⟨by revert h7;cases made<;>cases bad<;>simp,rfl,rfl⟩)
 ·obtain ⟨rfl,rfl⟩:made=true∧bad=false:=by revert h7;cases made<;>cases bad<;>simp
  refine S.skip<|S.seq<|S.region rfl<|O.op (.p rfl) (.jc rfl rfl)<|O.defer rfl rfl rfl rfl ?_;refine O.nil<|S.seq<|S.region rfl<|O.q 1 rfl<|O.B5 (.p rfl) rfl hc rfl rfl ai ((con rfl rfl).sub hg) (fun a ch ax w hF hX hW=>by (obtain ⟨rfl,v',w_,rfl⟩:=hX;exact vG results370 bc hF rfl bI aa (Xd (hW.jU jx) fun w hw=>Holds.end_ hR hw ⟨_,.inr (.inr ⟨rfl,rfl,v',w_,rfl,rfl⟩),by repeat (first|exact aS|exact aU|(apply aT;focus (repeat (first|exact aR|apply zt)))|apply aV)⟩))) ?_;rintro v11 _ ⟨v',ζ,hK,rfl⟩
  try simp only [an,aq,au]
  have hone:=pe _ _ _ hK;refine O.perm (List.Perm.cons _ List.perm_append_comm) ?_;simp only [List.cons_append,List.nil_append];refine O.bu rfl (.bn bc rfl rfl bq ai aW) ?_;refine O.nil<|S.q8 fun a w hf hd hw=>?_;exact vG results370 bc hf rfl bI aa (Xe hw fun w hw=>Holds.end_ hR hw ⟨_,.inr (.inl ⟨rfl,rfl,v',ζ,hK,rfl⟩),by repeat (first|exact aS|exact aU|(apply aT;focus (repeat (first|exact aR|apply zt)))|apply aV)⟩)
end Go.Proofs.YtojafegjlahajaaGreatDoor
