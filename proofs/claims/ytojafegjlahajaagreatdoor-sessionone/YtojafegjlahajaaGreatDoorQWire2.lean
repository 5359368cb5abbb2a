/- Texts of this proof. -/
import Derived.Test.YtojafegjlahajaaGreatDoorQMerk2
open Go Go.Sp Go.Proofs.Tryz
set_option maxRecDepth 100000
set_option maxHeartbeats 1000000
attribute [local irreducible] obj Own av
namespace Go.Proofs.YtojafegjlahajaaGreatDoor
theorem tH {α:Type} {T:ag α} {e:TypeId} {v:Value} {xs:List α} {m:Fr} (h:Sat [av T e v xs] m):aj T m v xs:=by
 obtain ⟨m1,_,_,s1,_,o,_⟩:=h;exact (av.arr o).mono s1
theorem MQ {α:Type} {T:ag α} {e:TypeId} {vs:List Value} {xs:List (List α)} {m k:Fr} (s:m.sub k) (x:b5 (av T e) vs xs m):bY (aj T k) vs xs:=b5.sB (R:=fun v a=>aj T k v a) (fun _ _ _ z w=>aj.mono w (av.arr z)) x s
theorem MR {β α:Type} {A:β→α→az} {bs:List β} {ys:List α} {b1 b2:β} {a1 a2:α} {m:Fr} (st:Sat [b5 A bs ys,A b1 a1,A b2 a2] m):b5 A (bs++[b1,b2]) (ys++[a1,a2]) m:=by
 obtain ⟨h1,h2,d,s1,s2,x,y⟩:=st;exact b5.app ⟨h1,h2,d,s1,s2,x,h2,Fr.emp,Fr.eX (Fr.dW _),Fr.bW _,Fr.c4 _,b5.Eg (A:=A) (bs:=[b1,b2]) rfl y,trivial⟩
theorem R3 {k:UInt8} (h:k.toNat<5):bH ([0,0,1,2,3]:List UInt8)[k.toNat]=bH (xI k):=by
 unfold xI;rw [List.getD_eq_getElem?_getD,List.getElem?_eq_getElem (show k.toNat<([0,0,1,2,3]:List UInt8).length from h)]
 rfl
theorem vb {r:Fr} {cs:List Value} {x:dJ} (h:ga.rel r cs x) (hx0:x.2.1.length≤1000000000000∧x.2.2.1.length≤1000000000000) (hx2:x.2.2.2.1.length≤10000000∧∀ y∈x.2.2.2.1,y.2.1.length≤10000000) (hH:At r ⟨0,0,none⟩ (bQ ed)) (hK:At r ⟨1,0,none⟩ (bQ fZ)) :
  ay prog 22 #[.agg cs.toArray] r [] (aM fun v U=>∃ a c,v=.slice a (fV x).length c∧U=[av ag.u8 5 (.slice a (fV x).length c) (fV x)]):=by
 have h0:=h;obtain ⟨a1,a2,a3,c1,c2,c3,rfl,k1,k2,aR⟩:=ga.sh h;refine ay.of (n:=40) _ rfl func22 rfl rfl rfl fun g hg R hR=>?_;have h:=h.mono hg;have h0:=h0.mono hg;have k1:=k1.mono hg;have k2:=k2.mono hg;have aR:=aR.mono hg;have hH:=hH.mono hg;have hK:=hK.mono hg;have hb:=aR.bound;refine S.seq<|S.region rfl<|O.aO (.p rfl) (.box (cs:=[_,_,_,_]) rfl rfl) ?_;rintro _ _ ⟨b1,rfl,rfl⟩;refine O.q 1 rfl<|O.nil<|S.seq<|S.seq<|S.c7 (b:=b1) (cs' :=[bH x.1,.slice a1 x.2.1.length c1,.slice a2 x.2.2.1.length c2,.slice a3 x.2.2.2.1.length c3]) ai rfl ?_;refine S.cV ai fun g hs hm h1=>?_;replace hg:=Fr.aI hg hs;replace hR:=bt hR hm
 try replace h:=h.mono hs
 try replace h0:=h0.mono hs
 try replace k1:=k1.mono hs
 try replace k2:=k2.mono hs
 try replace aR:=aR.mono hs
 try replace hH:=hH.mono hs
 try replace hK:=hK.mono hs
 clear hs hm
 by_cases e:gx x
 ·have C4:=R4 e
  have hkeys:∀ y∈x.2.2.2.1,y.1.length≤64:=fun y hy=>(e.1.1 y hy).1.2;have ig:x.2.1.length≤64∧x.2.2.1.length≤64:=by rcases e.2 with q|q|q|q;rw [q.2.1,q.2.2.1];decide;rw [q.2.1,q.2.2.1];decide;omega;rw [q.2.1,q.2.2.1];decide
  refine S.region rfl<|O.op (.p rfl) (.bI isAgg27 aa rfl h1) ?_;refine O.aC (.p rfl) rfl aa rfl rfl ((I8 h0 hx0 (fun y hy=>by have:=hx2.2 y hy;omega))) ?_;rintro _ _ ⟨rfl,rfl⟩
  try simp only [an,aq,au]
  refine O.sT 7 rfl (by exact decide_eq_true e) ?_;refine O.op (.p rfl) (.not rfl)<|O.nil<|S.aP rfl<|S.skip<|S.seq<|S.bB (L:=[1,2,6,7,8,9,0,3,4,5,10,11]) bx aa ?_;refine .quiet (.p rfl) rfl (fun _=>.fieldAddr eA rfl)<|.quiet (.p rfl) rfl (fun _=>.loadAt ez rfl h1 rfl) ?_;refine .quiet (.p rfl) rfl (fun _=>.fieldAddr mj rfl)<|.quiet (.p rfl) rfl (fun _=>.loadAt bg rfl (h1.drop 1) rfl) ?_;refine .quiet (.p rfl) rfl (fun _=>.fieldAddr mm rfl)<|.quiet (.p rfl) rfl (fun _=>.loadAt bg rfl (h1.drop 2) rfl) ?_;refine af.cn (T:=ag.u8) (ys:=[0,0,1,2,3]) (.p rfl) aa underlying24 eM zE rfl rfl ⟨rfl,rfl,rfl,rfl,rfl,trivial⟩ zE (fun a9 qc=>?_);refine af.oZ (T:=ag.u8) (e:=5) (v:=.slice a9 5 qc) (xs:=[0,0,1,2,3]) (j:=x.1.toNat) (.p rfl) aa underlying24 fL rfl rfl rfl ai C4 (fun Js fI=>?_);refine af.cr (.p rfl) aa (fun _=>.RB (T:=ag.u8) (xs:=[0,0,1,2,3]) (j:=x.1.toNat) kX rfl fI rfl ai C4 (by rintro _ rfl;exact congrArg (fun v=>[v]) (R3 C4))) ?_;refine af.cn (.p rfl) aa (T:=ag.u8) (ys:=[xI x.1]) underlying24 eM zE rfl rfl ⟨rfl,trivial⟩ zE (fun nI nM=>?_)
  refine af.cn (.p rfl) aa (T:=ag.val) (ys:=[.slice nI 1 nM,.slice a1 x.2.1.length c1,.slice a2 x.2.2.1.length c2]) underlying109 gr zE rfl rfl ⟨⟨rfl,rfl⟩,⟨rfl,rfl⟩,⟨rfl,rfl⟩,trivial⟩ zE (fun yh yu=>?_);refine af.q 1 rfl<|aK.nil<|S.seq<|S.seq<|S.eC (A:=av ag.u8 5 (.slice nI 1 nM) [xI x.1]) ai fun g hs hm ⟨_,x',s'⟩=>?_;have ht:=(fun s x=>aj.mono s (av.arr x)) s' x';clear x' s';replace hg:=Fr.aI hg hs;replace hR:=bt hR hm
  try replace h:=h.mono hs
  try replace h0:=h0.mono hs
  try replace k1:=k1.mono hs
  try replace k2:=k2.mono hs
  try replace aR:=aR.mono hs
  try replace hH:=hH.mono hs
  try replace hK:=hK.mono hs
  try replace h1:=h1.mono hs
  clear hs hm;refine S.eC (A:=av ag.u8 5 (.slice a9 5 qc) [0,0,1,2,3]) ai fun g hs hm ⟨_,x',s'⟩=>?_;have h9:=(fun s x=>aj.mono s (av.arr x)) s' x';clear x' s';replace hg:=Fr.aI hg hs;replace hR:=bt hR hm
  try replace h:=h.mono hs
  try replace h0:=h0.mono hs
  try replace k1:=k1.mono hs
  try replace k2:=k2.mono hs
  try replace aR:=aR.mono hs
  try replace hH:=hH.mono hs
  try replace hK:=hK.mono hs
  try replace h1:=h1.mono hs
  try replace ht:=ht.mono hs
  clear hs hm;refine S.cg (A:=b5 (av ag.u8 5) [] (o4 (x.2.2.2.1.take 0))) (bs:=[]) .nil (fun m _=>trivial) ?_;refine S.region rfl<|O.op (.p rfl) (.fieldAddr mo rfl)<|O.op (.p rfl) (.loadAt dO rfl (h1.drop 3) rfl) ?_;refine O.op (.p rfl) (.len rfl underlying25 rfl)<|O.q 1 rfl<|O.nil<|S.block<|S.zL (ι:=Nat) (dB:=Option Addr × Nat) (jO:=List Value) (fun k s vs=>k≤x.2.2.2.1.length∧vs.length=2*k) (fun k s vs=>[(23,.int .i64 (k:Int)),(3,.slice s.1 (3+2*k) s.2)]) [(21,_),(22,_)] (fun k s vs=>[b5 (av ag.u8 5) vs (o4 (x.2.2.2.1.take k)),av ag.val 24 (.slice s.1 (3+2*k) s.2) ([.slice nI 1 nM,.slice a1 x.2.1.length c1,.slice a2 x.2.2.1.length c2]++vs)]) (fun k s vs=>x.2.2.2.1.length - k) (0) ((yh,yu)) ([]) (by exact ⟨by omega,rfl⟩) (.cons rfl (.cons rfl (.nil))) (.cons rfl (.cons rfl (.nil))) rfl fun k s vs hx ih=>?_;have bl:=cW (g:=g);obtain ⟨hx1,hvl⟩:=hx;refine S.seq<|S.region rfl<|O.op (.p rfl) (.lss rfl rfl)<|O.nil (S.seq ?_)
  first|refine S.ct rfl (fun jX=>?_) (fun jX=>?_)|refine S.cm rfl (fun jX=>?_) (fun jX=>?_)
  ·have hk:k<x.2.2.2.1.length:=by omega
   have qy:=hx2.2 _ (List.getElem_mem hk);have hkey:=hkeys _ (List.getElem_mem hk);have eO:=Rn hk;refine S.skip<|S.seq<|S.block<|S.seq<|S.region rfl<|O.b_ (.p rfl) underlying25 dz rfl rfl rfl (aR) (h:=fun Yk Wn wW O9=>?_);obtain ⟨l1,m1,rfl,l2,l3⟩:=cq.sh O9;have l3:=l3;refine O.op (.p rfl) (.bI isAgg31 aa rfl wW) ?_;refine O.aO (.p rfl) (.alloc (cs:=[.string ⟨#[]⟩,.slice none 0 0]) zeroValue31 rfl) ?_;rintro _ _ ⟨gK,rfl,rfl⟩;refine O.bw rfl (.cZ aa rfl rfl rfl rfl ai aT) ?_;refine O.nil ?_;generalize x.2.2.2.1[k]=y at *;refine S.c7 (b:=gK) (cs' :=[.string (str y.1),.slice l1 y.2.1.length m1]) ai rfl ?_;refine S.cV ai fun g hs hm h5=>?_;replace hg:=Fr.aI hg hs;replace hR:=bt hR hm
   try replace h:=h.mono hs
   try replace h0:=h0.mono hs
   try replace k1:=k1.mono hs
   try replace k2:=k2.mono hs
   try replace aR:=aR.mono hs
   try replace hH:=hH.mono hs
   try replace hK:=hK.mono hs
   try replace h1:=h1.mono hs
   try replace ht:=ht.mono hs
   try replace h9:=h9.mono hs
   try replace wW:=wW.mono hs
   try replace l3:=l3.mono hs
   replace bl:=eD bl hm;clear hs hm;refine S.bB (L:=[0,1,2,5,6,3,4,7,8,9,10]) bx aa ?_;refine af.q 1 rfl<|.quiet (.p rfl) rfl (fun _=>.fieldAddr eB rfl)<|.quiet (.p rfl) rfl (fun _=>.loadAt bV rfl h5 rfl) ?_;refine .quiet (.p rfl) rfl (fun _=>.fieldAddr gl rfl)<|.quiet (.p rfl) rfl (fun _=>.loadAt eN rfl (h5.drop 1) rfl) ?_;refine af.pg (.p rfl) aa underlying9 underlying24 underlying5 rfl (by first|assumption|omega|(simp;done)|(simp;omega)) (fun Bf Bv=>?_);refine af.cU (.p rfl) aa rfl aa rfl rfl (bs:=[av ag.u8 5 (.slice Bf y.1.length Bv) y.1]) aV (fun m hm hd=>vr ((tH hm).right hd) ah) ?_;rintro _ _ ⟨a31,iE,rfl,rfl⟩
   try simp only [an,aq,au]
   refine af.aC (.p rfl) aa rfl aa rfl rfl ((Ur l3 hH hK qy)) ?_;rintro _ _ ⟨uq,ux,rfl,rfl⟩
   try simp only [an,aq,au]
   refine af.cn (.p rfl) aa (T:=ag.val) (ys:=[.slice a31 (bytesOf y.1).length iE,.slice uq (gX y.2.1).length ux]) underlying109 gr zE rfl rfl ⟨⟨rfl,rfl⟩,⟨rfl,rfl⟩,trivial⟩ zE (fun a35 Bw=>?_);refine af.gJ (.p rfl) aa (T:=ag.val) underlying109 gr zE rfl rfl ai ai bL bL (fun a36 Bx=>?_);refine af.q 1 rfl<|aK.nil<|S.inBlock<|S.cg (A:=b5 (av ag.u8 5) (vs++[.slice a31 (bytesOf y.1).length iE,.slice uq (gX y.2.1).length ux]) (o4 (x.2.2.2.1.take (k+1)))) (bs:=[b5 (av ag.u8 5) vs (o4 (x.2.2.2.1.take k)),av ag.u8 5 (.slice a31 (bytesOf y.1).length iE) (bytesOf y.1),av ag.u8 5 (.slice uq (gX y.2.1).length ux) (gX y.2.1)]) aV (fun m st=>by rw [← eO];exact MR st) ?_;refine S.eC (A:=av ag.u8 5 (.slice Bf y.1.length Bv) y.1) ai fun g hs hm ⟨_,x',s'⟩=>?_;have W9:=(fun s x=>aj.mono s (av.arr x)) s' x';clear x' s';replace hg:=Fr.aI hg hs;replace hR:=bt hR hm
   try replace h:=h.mono hs
   try replace h0:=h0.mono hs
   try replace k1:=k1.mono hs
   try replace k2:=k2.mono hs
   try replace aR:=aR.mono hs
   try replace hH:=hH.mono hs
   try replace hK:=hK.mono hs
   try replace h1:=h1.mono hs
   try replace ht:=ht.mono hs
   try replace h9:=h9.mono hs
   try replace wW:=wW.mono hs
   try replace l3:=l3.mono hs
   try replace h5:=h5.mono hs
   replace bl:=eD bl hm;clear hs hm;refine S.jm (T:=ag.val) (e:=24) (v' :=.slice a36 (3+2*(k+1)) Bx) (xs' :=[.slice nI 1 nM,.slice a1 x.2.1.length c1,.slice a2 x.2.2.1.length c2]++(vs++[.slice a31 (bytesOf y.1).length iE,.slice uq (gX y.2.1).length ux])) ai (by congr 1;simp only [List.length_cons,List.length_nil,hvl];omega) bq ?_;refine S.slot 3 (v' :=.slice a36 (3+2*(k+1)) Bx) rfl (by congr 1;simp only [List.length_cons,List.length_nil,hvl];omega) ?_;refine S.region rfl<|O.op (.p rfl) (.add rfl rfl (IntWalk.i64_in _ ah))<|O.q 1 rfl<|O.nil ?_;exact S.iR bl (S.pw (ih (k+1) ((a36,Bx)) ((vs++[.slice a31 (bytesOf y.1).length iE,.slice uq (gX y.2.1).length ux])) (by exact ⟨by omega,by rw [List.length_append,hvl];simp only [List.length_cons,List.length_nil];omega⟩) ah))
  ·clear ih
   have hk:k=x.2.2.2.1.length:=by omega
   subst hk;rw [List.take_length];refine S.exit rfl<|S.seq<|S.fB ai fun g hs hm hpv=>?_;replace hg:=Fr.aI hg hs;replace hR:=bt hR hm
   try replace h:=h.mono hs
   try replace h0:=h0.mono hs
   try replace k1:=k1.mono hs
   try replace k2:=k2.mono hs
   try replace aR:=aR.mono hs
   try replace hH:=hH.mono hs
   try replace hK:=hK.mono hs
   try replace h1:=h1.mono hs
   try replace ht:=ht.mono hs
   try replace h9:=h9.mono hs
   replace bl:=eD bl hm;clear hs hm;refine S.eC (A:=b5 (av ag.u8 5) vs (o4 x.2.2.2.1)) ai fun g hs hm ⟨_,x',s'⟩=>?_;have he:=MQ s' x';clear x' s';replace hg:=Fr.aI hg hs;replace hR:=bt hR hm
   try replace h:=h.mono hs
   try replace h0:=h0.mono hs
   try replace k1:=k1.mono hs
   try replace k2:=k2.mono hs
   try replace aR:=aR.mono hs
   try replace hH:=hH.mono hs
   try replace hK:=hK.mono hs
   try replace h1:=h1.mono hs
   try replace ht:=ht.mono hs
   try replace h9:=h9.mono hs
   try replace hpv:=hpv.mono hs
   replace bl:=eD bl hm;clear hs hm;have hpa:aj (ag.slice ag.u8) g.h (.slice s.1 (3+2*x.2.2.2.1.length) s.2) (xH x):=aj.rows hpv ⟨ht,k1,k2,he⟩;have fD:=IM x.2.2.2.1 hkeys;have hfl:(xH x).flatten.length≤10000000000:=by unfold xH;simp only [List.flatten_append,List.flatten_cons,List.flatten_nil,List.length_append,List.length_cons,List.length_nil];omega
   refine S.region rfl<|O.q 1 rfl<|O.aC (.p rfl) rfl aa rfl rfl ((r_ hpa hH hK ah)) ?_;rintro _ _ ⟨a39,By,rfl,rfl⟩
   try simp only [an,aq,au]
   refine O.q 1 rfl<|O.nil ?_;have e1:=Jg e;have e2:(fV x).length=64:=(zR x).2 e;refine S.jm (T:=ag.u8) (e:=5) (v' :=.slice a39 (fV x).length By) (xs' :=fV x) ai (by rw [e2]) e1.symm ?_;exact S.rt results22 rfl hR ⟨a39,By,by rw [e2],rfl⟩
 ·have e1:=Jf e
  refine S.region rfl<|O.op (.p rfl) (.bI isAgg27 aa rfl h1) ?_;refine O.aC (.p rfl) rfl aa rfl rfl ((I8 h0 hx0 (fun y hy=>by have:=hx2.2 y hy;omega))) ?_;rintro _ _ ⟨rfl,rfl⟩
  try simp only [an,aq,au]
  refine O.aL 7 rfl (by exact decide_eq_false e) ?_;refine O.op (.p rfl) (.not rfl)<|O.nil<|S.bC rfl<|S.seq<|S.region rfl<|O.q 1 rfl<|O.nil<|S.gd (T:=ag.u8) (e:=5) ?_;refine S.jm (T:=ag.u8) (e:=5) (v' :=.slice none (fV x).length 0) (xs' :=fV x) ai (by rw [e1];rfl) e1.symm ?_;exact S.rt results22 rfl hR ⟨none,0,by rw [e1];rfl,rfl⟩
def iC (c:UInt8):Bool:=c.toNat ==48 ||c.toNat ==49
def lu:List Value:=(List.range 256).map fun i=>.bool (i ==48 ||i ==49)
theorem LG (c:UInt8):lu[c.toNat]?=some (.bool (iC c)):=by
 have:=c.toNat_lt;simp only [lu,iC,List.getElem?_map];rw [List.getElem?_range ah];rfl
theorem F7 {c:UInt8}:iC c=true↔c=48∨c=49:=by
 unfold iC;rw [Bool.or_eq_true,beq_iff_eq,beq_iff_eq]
 constructor
 ·rintro (h|h)
  ·exact .inl (UInt8.toNat_inj.1 h)
  ·exact .inr (UInt8.toNat_inj.1 h)
 ·rintro (rfl|rfl)
  ·exact .inl rfl
  ·exact .inr rfl
theorem ze {r:Fr} {b:Nat} {c:UInt8} (h:At r ⟨b,0,none⟩ lu):ay prog 312 #[.pointer (some ⟨b,0,none⟩),bH c] r [] (aM fun v U=>v=.bool (iC c)∧U=[]):=by
 have hc:=c.toNat_lt;refine ay.of (n:=10) _ rfl func312 rfl rfl rfl fun g hg R hR=>?_;have h:=h.mono hg;refine S.seq<|S.region rfl<|O.q 1 rfl<|O.nil<|S.seq<|S.region rfl<|O.q 2 rfl<|O.op (.p rfl) (.nilCheck rfl)<|O.op (.p rfl) (.kz (j:=c.toNat) underlying310 EV rfl rfl rfl ah)<|O.op (.p rfl) (.load ic rfl (h.at (LG c))) ?_;refine O.q 1 rfl<|O.nil ?_;exact S.rt results312 rfl hR ⟨rfl,rfl⟩
theorem tU (l:List UInt8):(str l).size=l.length:=by simp
theorem U4 {s:List UInt8} {i:Nat} (hi:i<s.length) (h:∀ j (q:j<s.length),s.length - i≤j→iC s[j]=true) (e:iC (s[s.length - i - 1]'ah)=true):∀ j (q:j<s.length),s.length - (i+1)≤j→iC s[j]=true:=fun j q w=>by
 rcases Nat.lt_or_ge j (s.length - i) with w' |w'
 ·have:j=s.length - i - 1:=by omega
  subst this;exact e
 ·exact h j q w'
theorem Vs {r:Fr} {b:Nat} {s:List UInt8} (h:At r ⟨b,0,none⟩ lu) (hl:s.length≤1000000000000):ay prog 247 #[.string (str s),.pointer (some ⟨b,0,none⟩)] r [] (aM fun v U=>∃ k,k≤s.length∧v=.string (str (s.take k))∧(∀ j (q:j<s.length),k≤j→iC s[j]=true)∧(∀ q:k - 1<s.length,0<k→iC s[k - 1]=false)∧U=[]):=by
 have h0:=h;refine ay.of (n:=22) _ rfl func247 rfl rfl rfl fun g hg R hR=>?_;have h:=h.mono hg;refine S.seq<|S.region rfl<|O.q 1 rfl<|O.nil<|S.seq<|S.block<|S.slot 0 (v' :=.string (str (s.take (s.length - 0)))) rfl (by rw [Nat.sub_zero,List.take_length]) ?_;refine S.fT (ι:=Nat) (fun i=>i≤s.length∧∀ j (q:j<s.length),s.length - i≤j→iC s[j]=true) (fun i=>[(0,.string (str (s.take (s.length - i))))]) [(1,_)] (fun i=>[]) (fun i=>s.length - i) (0) (by exact ⟨by omega,fun j q w=>by omega⟩) (.cons rfl (.nil)) (.cons rfl (.nil)) rfl fun i hx ih=>?_;have bl:=cW (g:=g);obtain ⟨hx1,hall⟩:=hx;have jl:(s.take (s.length - i)).length=s.length - i:=by rw [List.length_take];omega
 have xb:∀ q:s.length - i - 1<(s.take (s.length - i)).length,(s.take (s.length - i))[s.length - i - 1]=s[s.length - i - 1]'ah:=fun q=>List.getElem_take
 by_cases hi:i<s.length
 ·have hj:s.length - i - 1<(s.take (s.length - i)).length:=by omega
  have hsz:(str (s.take (s.length - i))).size=s.length - i:=by rw [tU,jl]
  cases e:iC (s[s.length - i - 1]'ah) with
  |true =>
   refine S.seq<|S.seq<|S.region rfl<|O.q 1 rfl<|O.op (.p rfl) (.c6 rfl underlying9 rfl)<|O.op (.p rfl) (.gtr rfl rfl)<|O.sT 7 rfl (by exact decide_eq_true (by rw [hsz];omega)) ?_;refine O.nil<|S.bC rfl<|S.skip<|S.block<|S.seq<|S.seq<|S.region rfl<|O.q 3 rfl<|O.op (.p rfl) (.c6 rfl underlying9 rfl)<|O.op (.p rfl) (.sub rfl rfl (IntWalk.i64_in _ ah))<|O.slot 12 (v' :=.int .i64 ((s.length - i - 1:Nat):Int)) rfl (by exact congrArg (Value.int .i64) (by rw [hsz];omega)) ?_;refine O.op (.p rfl) (.u3 (j:=s.length - i - 1) underlying9 rfl rfl vD bL) ?_;refine O.slot 13 (v' :=bH (s[s.length - i - 1]'ah)) rfl (by exact congrArg bH (xb hj)) ?_;refine O.aC (.p rfl) rfl aa rfl rfl ((ze (h0.mono hg))) ?_;rintro _ _ ⟨rfl,rfl⟩
   try simp only [an,aq,au]
   refine O.sT 14 rfl (by exact e) ?_;refine O.op (.p rfl) (.not rfl)<|O.nil<|S.aP rfl<|S.skip<|S.region rfl<|O.q 2 rfl<|O.op (.p rfl) (.c6 rfl underlying9 rfl)<|O.op (.p rfl) (.sub rfl rfl (IntWalk.i64_in _ ah))<|O.slot 19 (v' :=.int .i64 ((s.length - i - 1:Nat):Int)) rfl (by exact congrArg (Value.int .i64) (by rw [hsz];omega)) ?_;refine O.Kp (b:=s.length - i - 1) (.p rfl) underlying9 rfl rfl (show _=(((s.length - i - 1):Nat):Int) by omega) bL ?_;refine O.q 1 rfl<|O.nil<|S.inBlock<|S.slot 0 (v' :=.string (str (s.take (s.length - (i+1))))) rfl (by rw [List.take_take,show min (s.length - i - 1) (s.length - i)=s.length - (i+1) from by omega]) ?_;exact S.dH (ih (i+1) (by exact ⟨by omega,U4 hi hall e⟩) ah)
  |false =>
   refine S.seq<|S.seq<|S.region rfl<|O.q 1 rfl<|O.op (.p rfl) (.c6 rfl underlying9 rfl)<|O.op (.p rfl) (.gtr rfl rfl)<|O.sT 7 rfl (by exact decide_eq_true (by rw [hsz];omega)) ?_;refine O.nil<|S.bC rfl<|S.skip<|S.block<|S.seq<|S.seq<|S.region rfl<|O.q 3 rfl<|O.op (.p rfl) (.c6 rfl underlying9 rfl)<|O.op (.p rfl) (.sub rfl rfl (IntWalk.i64_in _ ah))<|O.slot 12 (v' :=.int .i64 ((s.length - i - 1:Nat):Int)) rfl (by exact congrArg (Value.int .i64) (by rw [hsz];omega)) ?_;refine O.op (.p rfl) (.u3 (j:=s.length - i - 1) underlying9 rfl rfl vD bL) ?_;refine O.slot 13 (v' :=bH (s[s.length - i - 1]'ah)) rfl (by exact congrArg bH (xb hj)) ?_;refine O.aC (.p rfl) rfl aa rfl rfl ((ze (h0.mono hg))) ?_;rintro _ _ ⟨rfl,rfl⟩
   try simp only [an,aq,au]
   refine O.aL 14 rfl (by exact e) ?_;refine O.op (.p rfl) (.not rfl)<|O.nil<|S.bC rfl<|S.exit rfl<|S.seq<|S.region rfl<|O.q 2 rfl<|O.nil ?_;exact S.rt results247 rfl hR ⟨s.length - i,by omega,rfl,hall,fun _ _=>e,rfl⟩
 ·have hii:i=s.length:=by omega
  have hsz:(str (s.take (s.length - i))).size=0:=by rw [hii];simp
  refine S.seq<|S.seq<|S.region rfl<|O.q 1 rfl<|O.op (.p rfl) (.c6 rfl underlying9 rfl)<|O.op (.p rfl) (.gtr rfl rfl)<|O.aL 7 rfl (by exact decide_eq_false (by rw [hsz];omega)) ?_;refine O.nil<|S.aP rfl<|S.exit rfl<|S.seq<|S.region rfl<|O.q 2 rfl<|O.nil ?_;exact S.rt results247 rfl hR ⟨s.length - i,by omega,rfl,hall,fun _ w=>by omega,rfl⟩
theorem Oa {s:List UInt8} {i:Nat} (hi:i<s.length) (h:∀ j (q:j<s.length),j<i→iC s[j]=true) (e:iC s[i]=true):∀ j (q:j<s.length),j<i+1→iC s[j]=true:=fun j q w=>by
 rcases Nat.lt_or_ge j i with w' |w'
 ·exact h j q w'
 ·have:j=i:=by omega
  subst this;exact e
theorem Vr {r:Fr} {b:Nat} {s:List UInt8} (h:At r ⟨b,0,none⟩ lu) (hl:s.length≤1000000000000):ay prog 246 #[.string (str s),.pointer (some ⟨b,0,none⟩)] r [] (aM fun v U=>∃ k,k≤s.length∧v=.string (str (s.drop k))∧(∀ j (q:j<s.length),j<k→iC s[j]=true)∧(∀ q:k<s.length,iC s[k]=false)∧U=[]):=by
 have h0:=h;refine ay.of (n:=16) _ rfl func246 rfl rfl rfl fun g hg R hR=>?_;have h:=h.mono hg;refine S.seq<|S.region rfl<|O.q 1 rfl<|O.nil<|S.seq<|S.block<|S.slot 0 (v' :=.string (str (s.drop 0))) rfl rfl ?_;refine S.fT (ι:=Nat) (fun i=>i≤s.length∧∀ j (q:j<s.length),j<i→iC s[j]=true) (fun i=>[(0,.string (str (s.drop i)))]) [(1,_)] (fun i=>[]) (fun i=>s.length - i) (0) (by exact ⟨by omega,fun j q w=>by omega⟩) (.cons rfl (.nil)) (.cons rfl (.nil)) rfl fun i hx ih=>?_;have bl:=cW (g:=g);obtain ⟨hx1,hall⟩:=hx;have hsz:(str (s.drop i)).size=s.length - i:=by rw [tU,List.length_drop]
 have hdl:(s.drop i).length=s.length - i:=List.length_drop
 by_cases hi:i<s.length
 ·have xb:(s.drop i)[0]'ah=s[i]:=by rw [List.getElem_drop];simp
  cases e:iC s[i] with
  |true =>
   refine S.seq<|S.seq<|S.region rfl<|O.q 1 rfl<|O.op (.p rfl) (.c6 rfl underlying9 rfl)<|O.op (.p rfl) (.gtr rfl rfl)<|O.sT 7 rfl (by exact decide_eq_true (by rw [hsz];omega)) ?_;refine O.nil<|S.bC rfl<|S.skip<|S.block<|S.seq<|S.seq<|S.region rfl<|O.q 2 rfl<|O.op (.p rfl) (.u3 (j:=0) underlying9 rfl rfl vD bL) ?_;refine O.slot 10 (v' :=bH s[i]) rfl (by exact congrArg bH xb) ?_;refine O.aC (.p rfl) rfl aa rfl rfl ((ze (h0.mono hg))) ?_;rintro _ _ ⟨rfl,rfl⟩
   try simp only [an,aq,au]
   refine O.sT 11 rfl (by exact e) ?_;refine O.op (.p rfl) (.not rfl)<|O.nil<|S.aP rfl<|S.skip<|S.region rfl<|O.q 1 rfl<|O.UQ (a:=1) (.p rfl) underlying9 rfl rfl (show _=(((1):Nat):Int) by omega) bL ?_;refine O.q 1 rfl<|O.nil<|S.inBlock<|S.slot 0 (v' :=.string (str (s.drop (i+1)))) rfl (by rw [List.drop_drop]) ?_;exact S.dH (ih (i+1) (by exact ⟨by omega,Oa hi hall e⟩) ah)
  |false =>
   refine S.seq<|S.seq<|S.region rfl<|O.q 1 rfl<|O.op (.p rfl) (.c6 rfl underlying9 rfl)<|O.op (.p rfl) (.gtr rfl rfl)<|O.sT 7 rfl (by exact decide_eq_true (by rw [hsz];omega)) ?_;refine O.nil<|S.bC rfl<|S.skip<|S.block<|S.seq<|S.seq<|S.region rfl<|O.q 2 rfl<|O.op (.p rfl) (.u3 (j:=0) underlying9 rfl rfl vD bL) ?_;refine O.slot 10 (v' :=bH s[i]) rfl (by exact congrArg bH xb) ?_;refine O.aC (.p rfl) rfl aa rfl rfl ((ze (h0.mono hg))) ?_;rintro _ _ ⟨rfl,rfl⟩
   try simp only [an,aq,au]
   refine O.aL 11 rfl (by exact e) ?_;refine O.op (.p rfl) (.not rfl)<|O.nil<|S.bC rfl<|S.exit rfl<|S.seq<|S.region rfl<|O.q 2 rfl<|O.nil ?_;exact S.rt results246 rfl hR ⟨i,by omega,rfl,hall,fun _=>e,rfl⟩
 ·have hii:i=s.length:=by omega
  refine S.seq<|S.seq<|S.region rfl<|O.q 1 rfl<|O.op (.p rfl) (.c6 rfl underlying9 rfl)<|O.op (.p rfl) (.gtr rfl rfl)<|O.aL 7 rfl (by exact decide_eq_false (by rw [hsz];omega)) ?_;refine O.nil<|S.aP rfl<|S.exit rfl<|S.seq<|S.region rfl<|O.q 2 rfl<|O.nil ?_;exact S.rt results246 rfl hR ⟨i,by omega,rfl,hall,fun w=>by omega,rfl⟩
theorem rf:lu.length=256:=by simp [lu]
theorem F8:∀ v∈lu,v.oneCell' =true:=fun v hv=>by
 obtain ⟨i,_,rfl⟩:=List.mem_map.1 hv;rfl
theorem RN {r:Fr}:ay prog 245 #[.string (str [48,49])] r [] (aM fun v U=>v=.tuple #[.agg lu.toArray,.bool true]∧U=[]):=by
 refine ay.of (n:=21) _ rfl func245 rfl rfl rfl fun g hg R hR=>?_
 refine S.seq<|S.region rfl<|O.aO (.p rfl) (.alloc (cs:=[.bool false,.bool false,.bool false,.bool false,.bool false,.bool false,.bool false,.bool false,.bool false,.bool false,.bool false,.bool false,.bool false,.bool false,.bool false,.bool false,.bool false,.bool false,.bool false,.bool false,.bool false,.bool false,.bool false,.bool false,.bool false,.bool false,.bool false,.bool false,.bool false,.bool false,.bool false,.bool false,.bool false,.bool false,.bool false,.bool false,.bool false,.bool false,.bool false,.bool false,.bool false,.bool false,.bool false,.bool false,.bool false,.bool false,.bool false,.bool false,.bool false,.bool false,.bool false,.bool false,.bool false,.bool false,.bool false,.bool false,.bool false,.bool false,.bool false,.bool false,.bool false,.bool false,.bool false,.bool false,.bool false,.bool false,.bool false,.bool false,.bool false,.bool false,.bool false,.bool false,.bool false,.bool false,.bool false,.bool false,.bool false,.bool false,.bool false,.bool false,.bool false,.bool false,.bool false,.bool false,.bool false,.bool false,.bool false,.bool false,.bool false,.bool false,.bool false,.bool false,.bool false,.bool false,.bool false,.bool false,.bool false,.bool false,.bool false,.bool false,.bool false,.bool false,.bool false,.bool false,.bool false,.bool false,.bool false,.bool false,.bool false,.bool false,.bool false,.bool false,.bool false,.bool false,.bool false,.bool false,.bool false,.bool false,.bool false,.bool false,.bool false,.bool false,.bool false,.bool false,.bool false,.bool false,.bool false,.bool false,.bool false,.bool false,.bool false,.bool false,.bool false,.bool false,.bool false,.bool false,.bool false,.bool false,.bool false,.bool false,.bool false,.bool false,.bool false,.bool false,.bool false,.bool false,.bool false,.bool false,.bool false,.bool false,.bool false,.bool false,.bool false,.bool false,.bool false,.bool false,.bool false,.bool false,.bool false,.bool false,.bool false,.bool false,.bool false,.bool false,.bool false,.bool false,.bool false,.bool false,.bool false,.bool false,.bool false,.bool false,.bool false,.bool false,.bool false,.bool false,.bool false,.bool false,.bool false,.bool false,.bool false,.bool false,.bool false,.bool false,.bool false,.bool false,.bool false,.bool false,.bool false,.bool false,.bool false,.bool false,.bool false,.bool false,.bool false,.bool false,.bool false,.bool false,.bool false,.bool false,.bool false,.bool false,.bool false,.bool false,.bool false,.bool false,.bool false,.bool false,.bool false,.bool false,.bool false,.bool false,.bool false,.bool false,.bool false,.bool false,.bool false,.bool false,.bool false,.bool false,.bool false,.bool false,.bool false,.bool false,.bool false,.bool false,.bool false,.bool false,.bool false,.bool false,.bool false,.bool false,.bool false,.bool false,.bool false,.bool false,.bool false,.bool false,.bool false,.bool false,.bool false,.bool false,.bool false,.bool false,.bool false,.bool false,.bool false,.bool false,.bool false,.bool false,.bool false,.bool false,.bool false,.bool false,.bool false,.bool false]) zeroValue310 rfl) ?_
 rintro _ _ ⟨b2,rfl,rfl⟩;refine O.q 1 rfl<|O.nil<|S.seq<|S.seq<|S.region rfl<|O.q 1 rfl<|O.nil<|S.block<|S.c7 (b:=b2) (cs' :=List.replicate 256 (.bool false)) ai rfl ?_;refine S.KO<|S.seq<|S.seq<|S.region rfl<|O.q 2 rfl<|O.op (.p rfl) (.c6 rfl underlying9 rfl)<|O.op (.p rfl) (.lss rfl rfl)<|O.sT 9 rfl aG ?_;refine O.nil<|S.bC rfl<|S.skip<|S.seq<|S.block<|S.seq<|S.region rfl<|O.q 2 rfl<|O.op (.p rfl) (.u3 (j:=0) underlying9 rfl rfl vD bL) ?_;refine O.slot 14 (v' :=.int .u8 48) rfl aG ?_;refine O.q 1 rfl<|O.nil<|S.seq<|S.seq<|S.region rfl<|O.q 1 rfl<|O.op (.p rfl) (.geq rfl rfl)<|O.aL 16 rfl aG ?_;refine O.nil<|S.aP rfl<|S.skip<|S.region rfl<|O.q 1 rfl<|O.op (.p rfl) (.pO (j:=48) underlying310 EV rfl rfl (show _=(((48):Nat):Int) by omega) ah)<|O.bw rfl (.bk ic rfl rfl bn ai aT) ?_;refine O.nil<|S.inBlock<|S.region rfl<|O.q 1 rfl<|O.op (.p rfl) (.add rfl rfl (IntWalk.i64_in _ ah))<|O.q 1 rfl<|O.nil<|S.c7 (b:=b2) (cs' :=(List.replicate 256 (.bool false)).set 48 (.bool true)) ai rfl ?_;refine S.EG<|S.seq<|S.seq<|S.region rfl<|O.q 2 rfl<|O.op (.p rfl) (.c6 rfl underlying9 rfl)<|O.op (.p rfl) (.lss rfl rfl)<|O.sT 9 rfl aG ?_;refine O.nil<|S.bC rfl<|S.skip<|S.seq<|S.block<|S.seq<|S.region rfl<|O.q 2 rfl<|O.op (.p rfl) (.u3 (j:=1) underlying9 rfl rfl vD bL) ?_
 refine O.slot 14 (v' :=.int .u8 49) rfl aG ?_;refine O.q 1 rfl<|O.nil<|S.seq<|S.seq<|S.region rfl<|O.q 1 rfl<|O.op (.p rfl) (.geq rfl rfl)<|O.aL 16 rfl aG ?_;refine O.nil<|S.aP rfl<|S.skip<|S.region rfl<|O.q 1 rfl<|O.op (.p rfl) (.pO (j:=49) underlying310 EV rfl rfl (show _=(((49):Nat):Int) by omega) ah)<|O.bw rfl (.bk ic rfl rfl bn ai aT) ?_;refine O.nil<|S.inBlock<|S.region rfl<|O.q 1 rfl<|O.op (.p rfl) (.add rfl rfl (IntWalk.i64_in _ ah))<|O.q 1 rfl<|O.nil<|S.c7 (b:=b2) (cs' :=lu) ai rfl ?_;refine S.EG<|S.seq<|S.seq<|S.region rfl<|O.q 2 rfl<|O.op (.p rfl) (.c6 rfl underlying9 rfl)<|O.op (.p rfl) (.lss rfl rfl)<|O.aL 9 rfl aG ?_;refine O.nil<|S.aP rfl<|S.exit rfl<|S.seq<|S.region rfl<|O.op (.p rfl) (.rU (news:=lu) isAgg310 (by rw [rf];kernel_rfl) rfl ai (by rw [List.drop_zero,List.take_length])) ?_;refine O.bw rfl (.cZ (news:=lu) (by rw [rf];kernel_rfl) rfl rfl sv (List.all_eq_true.2 F8) ai (by rw [rf];decide)) ?_;refine O.q 1 rfl<|O.nil<|S.c7 (b:=b2) (cs' :=lu) ai (by rw [List.take_zero,List.nil_append,List.drop_eq_nil_of_le (by rw [rf];decide),List.append_nil]) ?_;refine S.r5 results245 rfl rfl ai (fM.agg isAgg310 (by rw [rf];kernel_rfl)) fun w hw=>Holds.end_ hR hw ?_;exact pk ⟨rfl,rfl⟩
theorem Vt {s:List UInt8} {k m:Nat} (hk:k≤s.length) (h1:∀ j (q:j<s.length),k≤j→iC s[j]=true) (h2:∀ q:k - 1<s.length,0<k→iC s[k - 1]=false)
  (hm:m≤(s.take k).length) (h3:∀ j (q:j<(s.take k).length),j<m→iC (s.take k)[j]=true) (h4:∀ q:m<(s.take k).length,iC (s.take k)[m]=false):(s.take k).drop m=[]↔∀ c∈s,c=48∨c=49:=by
 have hl:(s.take k).length=k:=by rw [List.length_take];omega
 constructor
 ·intro e c hc
  have hmk:m=k:=by have:=congrArg List.length e;rw [List.length_drop,hl] at this;simp at this;omega
  obtain ⟨j,q,rfl⟩:=List.mem_iff_getElem.1 hc;rw [← F7]
  rcases Nat.lt_or_ge j k with w|w
  ·have:=h3 j ah ah
   rw [List.getElem_take] at this;exact this
  ·exact h1 j q w
 ·intro w
  have h0:k=0:=Nat.eq_zero_of_not_pos fun hp=>by
   have q:k - 1<s.length:=by omega
   have:=h2 q hp;rw [F7.2 (w _ (List.getElem_mem q))] at this;cases this
  subst h0;simp
theorem KI {r:Fr} {s:List UInt8} (hl:s.length≤1000000000000):ay prog 163 #[.string (str s),.string (str [48,49])] r [] (aM fun v U=>∃ t,v=.string (str t)∧(t=[]↔∀ c∈s,c=48∨c=49)∧U=[]):=by
 refine ay.of (n:=43) _ rfl func163 rfl rfl rfl fun g hg R hR=>?_
 by_cases h0:s=[]
 ·
  refine S.seq<|S.region rfl<|O.q 1 rfl<|O.nil<|S.seq<|S.seq<|S.region rfl<|O.q 1 rfl<|O.op (.p rfl) (.lE rfl rfl)<|O.sT 8 rfl (by simp [h0]) ?_;refine O.q 4 rfl<|O.nil<|S.bC rfl<|S.seq<|S.region rfl<|O.q 2 rfl<|O.nil ?_;exact S.rt results163 rfl hR ⟨s,rfl,⟨fun _=>by rw [h0];exact fun _ h=>(by cases h),fun _=>h0⟩,rfl⟩
 ·
  refine S.seq<|S.region rfl<|O.q 1 rfl<|O.nil<|S.seq<|S.seq<|S.region rfl<|O.q 1 rfl<|O.op (.p rfl) (.lE rfl rfl)<|O.aL 8 rfl (by exact decide_eq_false (fun q=>h0 (AD q))) ?_;refine O.q 2 rfl<|O.op (.g rfl rfl) (.lE rfl rfl)<|O.aL 11 rfl bq ?_;refine O.q 1 rfl<|O.nil<|S.aP rfl<|S.skip<|S.seq<|S.seq<|S.region rfl<|O.q 1 rfl<|O.op (.p rfl) (.c6 rfl underlying9 rfl)<|O.op (.p rfl) (.eql rfl rfl)<|O.aL 16 rfl aG ?_;refine O.q 5 rfl<|O.nil<|S.aP rfl<|S.skip<|S.seq<|S.seq<|S.region rfl<|O.q 1 rfl<|O.aC (.p rfl) rfl aa rfl rfl (RN) ?_;rintro _ _ ⟨rfl,rfl⟩
  try simp only [an,aq,au]
  refine O.q 3 rfl<|O.aO (.p rfl) (.alloc (cs:=[.bool false,.bool false,.bool false,.bool false,.bool false,.bool false,.bool false,.bool false,.bool false,.bool false,.bool false,.bool false,.bool false,.bool false,.bool false,.bool false,.bool false,.bool false,.bool false,.bool false,.bool false,.bool false,.bool false,.bool false,.bool false,.bool false,.bool false,.bool false,.bool false,.bool false,.bool false,.bool false,.bool false,.bool false,.bool false,.bool false,.bool false,.bool false,.bool false,.bool false,.bool false,.bool false,.bool false,.bool false,.bool false,.bool false,.bool false,.bool false,.bool false,.bool false,.bool false,.bool false,.bool false,.bool false,.bool false,.bool false,.bool false,.bool false,.bool false,.bool false,.bool false,.bool false,.bool false,.bool false,.bool false,.bool false,.bool false,.bool false,.bool false,.bool false,.bool false,.bool false,.bool false,.bool false,.bool false,.bool false,.bool false,.bool false,.bool false,.bool false,.bool false,.bool false,.bool false,.bool false,.bool false,.bool false,.bool false,.bool false,.bool false,.bool false,.bool false,.bool false,.bool false,.bool false,.bool false,.bool false,.bool false,.bool false,.bool false,.bool false,.bool false,.bool false,.bool false,.bool false,.bool false,.bool false,.bool false,.bool false,.bool false,.bool false,.bool false,.bool false,.bool false,.bool false,.bool false,.bool false,.bool false,.bool false,.bool false,.bool false,.bool false,.bool false,.bool false,.bool false,.bool false,.bool false,.bool false,.bool false,.bool false,.bool false,.bool false,.bool false,.bool false,.bool false,.bool false,.bool false,.bool false,.bool false,.bool false,.bool false,.bool false,.bool false,.bool false,.bool false,.bool false,.bool false,.bool false,.bool false,.bool false,.bool false,.bool false,.bool false,.bool false,.bool false,.bool false,.bool false,.bool false,.bool false,.bool false,.bool false,.bool false,.bool false,.bool false,.bool false,.bool false,.bool false,.bool false,.bool false,.bool false,.bool false,.bool false,.bool false,.bool false,.bool false,.bool false,.bool false,.bool false,.bool false,.bool false,.bool false,.bool false,.bool false,.bool false,.bool false,.bool false,.bool false,.bool false,.bool false,.bool false,.bool false,.bool false,.bool false,.bool false,.bool false,.bool false,.bool false,.bool false,.bool false,.bool false,.bool false,.bool false,.bool false,.bool false,.bool false,.bool false,.bool false,.bool false,.bool false,.bool false,.bool false,.bool false,.bool false,.bool false,.bool false,.bool false,.bool false,.bool false,.bool false,.bool false,.bool false,.bool false,.bool false,.bool false,.bool false,.bool false,.bool false,.bool false,.bool false,.bool false,.bool false,.bool false,.bool false,.bool false,.bool false,.bool false,.bool false,.bool false,.bool false,.bool false,.bool false,.bool false,.bool false,.bool false,.bool false,.bool false,.bool false,.bool false,.bool false,.bool false,.bool false,.bool false,.bool false,.bool false,.bool false,.bool false,.bool false]) zeroValue310 rfl) ?_
  rintro _ _ ⟨gK,rfl,rfl⟩;refine O.bw rfl (.cZ (news:=lu) (by rw [rf];kernel_rfl) rfl rfl sv (List.all_eq_true.2 F8) ai (by rw [rf];decide)) ?_;refine O.q 1 rfl<|O.nil<|S.seq<|S.c7 (b:=gK) (cs' :=lu) ai (by rw [List.take_zero,List.nil_append,List.drop_eq_nil_of_le (by rw [rf];decide),List.append_nil]) ?_;refine S.cV ai fun g hs hm h5=>?_;replace hg:=Fr.aI hg hs;replace hR:=bt hR hm;clear hs hm;refine S.region rfl<|O.q 1 rfl<|O.sT 34 rfl aG ?_;refine O.nil<|S.bC rfl<|S.seq<|S.region rfl<|O.q 1 rfl<|O.aC (.p rfl) rfl aa rfl rfl ((Vs h5 hl)) ?_;rintro v36 _ ⟨k,hk,rfl,h1,h2,rfl⟩
  try simp only [an,aq,au]
  refine O.aC (.p rfl) rfl aa rfl rfl ((Vr h5 (by rw [List.length_take];omega))) ?_;rintro v37 _ ⟨m,hm,rfl,h3,h4,rfl⟩
  try simp only [an,aq,au]
  refine O.q 1 rfl<|O.nil ?_;exact S.rt results163 rfl hR ⟨(s.take k).drop m,rfl,Vt hk h1 h2 hm h3 h4,rfl⟩
theorem Vc {g:bh} {bz bU:Nat} {x:Value} {fO :TypeId} {w:World} {R:Ending→World→Prop} {U:List az} (hw:Holds w g (obj bU fO [x]::U)) (hR:∀ w,Holds w g (obj bU fO [x]::U)→R (.returned x) w) :
  CallsD prog 389 #[.pointer (some ⟨bz,0,none⟩),.pointer (some ⟨bU,0,none⟩)] .returning w (sw g bU R):=by
 refine (nO (R:=fun e w=>(∃ v,e=.returned v)∧Holds w g (obj bU fO [x]::U)) [.pointer (some ⟨bz,0,none⟩),.pointer (some ⟨bU,0,none⟩)] rfl func389 rfl rfl rfl rfl hw ?_).mono ?_
 rotate_left
 ·rintro e u' w' ⟨rfl,⟨v,rfl⟩,h⟩
  exact ⟨⟨v,rfl⟩,rfl,fO,x,U,h,hR w' h⟩
 refine S.seq<|S.region rfl<|O.q 1 rfl<|O.op (.p rfl) (.u9 underlying20 rfl)<|O.nil<|S.aP rfl<|S.skip<|S.ej results389 fun w hw=>?_;exact ⟨⟨_,rfl⟩,hw⟩
theorem Vb {g:bh} {bz bU b:Nat} {v x:Value} {made bad:Bool} {fO vN:TypeId} {w:World} {R:Ending→World→Prop} {U:List az} (hw:Holds w g (obj bU fO [x]::obj bz vN [.pointer (some ⟨b,0,none⟩)]::obj b 441 [v,.bool made,.bool bad]::U))
  (hR:∀ w,Holds w g (obj bU fO [.int .u8 0]::obj b 441 [v,.bool made,.bool true]::U)→R (.returned (.int .u8 0)) w) :
  CallsD prog 389 #[.pointer (some ⟨bz,0,none⟩),.pointer (some ⟨bU,0,none⟩)] (.panicking missing) w (sw g bU R):=by
 refine (nO (R:=fun e w=>(∃ v,e=.returned v)∧Holds w g (obj bU fO [.int .u8 0]::obj b 441 [v,.bool made,.bool true]::U)) [.pointer (some ⟨bz,0,none⟩),.pointer (some ⟨bU,0,none⟩)] rfl func389 rfl rfl rfl rfl hw ?_).mono ?_
 rotate_left
 ·rintro e u' w' ⟨rfl,⟨v,rfl⟩,h⟩
  exact ⟨⟨v,rfl⟩,rfl,fO,_,_,h,hR w' h⟩
 refine S.seq<|S.region rfl<|O.q 1 rfl<|O.op (.p rfl) (.u_ underlying20 rfl)<|O.nil<|S.bC rfl<|S.seq<|S.seq<|S.region rfl<|O.q 1 rfl<|O.op (.p rfl) (.uv underlying459 rfl)<|O.q 3 rfl<|O.aO (.p rfl) (.alloc (cs:=[]) zeroValue459 rfl) ?_;rintro _ _ ⟨b3,rfl,rfl⟩;refine O.bw rfl (.cZ aa rfl rfl rfl rfl ai aT) ?_;refine O.q 1 rfl<|O.nil<|S.seq<|S.region rfl<|O.q 1 rfl<|O.op (.p rfl) (.not rfl)<|O.nil<|S.aP rfl<|S.skip<|S.seq<|S.region rfl<|O.op (.p rfl) (.lo oG) ?_;refine O.op (.p rfl) (.nilCheck rfl)<|O.op (.p rfl) (.aF yZ rfl)<|O.bw rfl (.bk ic rfl rfl bn ai aT) ?_;refine O.nil<|S.seq<|S.region rfl<|O.q 1 rfl<|O.nil<|S.region rfl<|O.q 1 rfl<|O.bw rfl (.bk kX rfl rfl bn ai aT) ?_;refine O.nil<|S.ej results389 fun w hw=>?_;exact ⟨⟨_,rfl⟩,hw.jH jM⟩
theorem Va {r:Fr} {b f:Nat} {v:Value} {made bad:Bool} {first cap:Array Value} {K:Value→Value→List az→Prop} {X:Value→Prop} (hc:dr prog f=true) (oK:∀ u v' ζ,K u v' ζ→u.oneCell' =true)
  (con:made=true→bad=false→ay prog f (first++#[]++cap) r [obj b 441 [v,.bool true,.bool false]] (ey (fun u U=>∃ v' ζ,K u v' ζ∧U=obj b 441 [v',.bool true,.bool false]::ζ) (fun ch U=>ch=missing∧∃ v',X v' ∧U=[obj b 441 [v',.bool true,.bool false]]))) :
  ay prog 368 #[.pointer (some ⟨b,0,none⟩),.func (.func f) first cap] r [obj b 441 [v,.bool made,.bool bad]] (aM fun u U =>
   ((made && !bad)=false∧u=.int .u8 0∧U=[obj b 441 [v,.bool made,.bool bad]])∨(made=true∧bad=false∧∃ v' ζ,K u v' ζ∧U=obj b 441 [v',.bool true,.bool false]::ζ) ∨
   (made=true∧bad=false∧∃ v',X v' ∧u=.int .u8 0∧U=[obj b 441 [v',.bool true,.bool true]])):=by
 refine ay.of (n:=12) [.pointer (some ⟨b,0,none⟩),.func (.func f) first cap] rfl func368 rfl rfl rfl fun g hg R hR=>?_;refine S.seq<|S.region rfl<|O.aO (.p rfl) (.box (cs:=[_]) rfl rfl) ?_;rintro _ _ ⟨b2,rfl,rfl⟩;refine O.aO (.p rfl) (.alloc (cs:=[.int .u8 0]) zeroValue5 rfl) ?_;rintro _ _ ⟨b4,rfl,rfl⟩;refine O.nil<|S.seq<|S.seq<|S.region rfl<|O.op (.p rfl) (.lo oG) ?_;refine O.bD (.p rfl) rfl aa rfl rfl ai Ah ?_;rintro _ _ ⟨rfl,rfl⟩
 try simp only [an,aq,au]
 refine O.op (.p rfl) ((by first|exact .k7 rfl|exact .not rfl)) ?_;refine O.nil ?_
 first|refine S.ct rfl (fun h7=>?_) (fun h7=>?_)|refine S.cm rfl (fun h7=>?_) (fun h7=>?_)
 ·refine S.seq<|S.region rfl<|O.op (.p rfl) (.lo kX) ?_
  refine O.bw rfl (.bk kX rfl rfl bn ai aT) ?_;refine O.nil<|S.EJ results368 kX rfl ai fun w hw=>Holds.end_ hR hw ?_;exact pk (.inl ⟨by revert h7;cases made<;>cases bad<;>simp,rfl,rfl⟩)
 ·obtain ⟨rfl,rfl⟩:made=true∧bad=false:=by revert h7;cases made<;>cases bad<;>simp
  refine S.skip<|S.seq<|S.region rfl<|O.op (.p rfl) (.iS rfl rfl)<|O.defer rfl rfl rfl rfl ?_;refine O.nil<|S.seq<|S.region rfl<|O.q 1 rfl<|O.BE (.p rfl) rfl hc rfl rfl ai ((con rfl rfl).sub hg) (fun a ch ax w hF hX hW=>by (obtain ⟨rfl,v',wA,rfl⟩:=hX;exact u4 results368 kX hF rfl bq aa (Vb (hW.jH jM) fun w hw=>Holds.end_ hR hw ⟨_,.inr (.inr ⟨rfl,rfl,v',wA,rfl,rfl⟩),by repeat (first|exact aW|exact aY|(apply aX;focus (repeat (first|exact aU|apply zt)))|apply aZ)⟩))) ?_;rintro v11 _ ⟨v',ζ,hK,rfl⟩
  try simp only [an,aq,au]
  have hone:=oK _ _ _ hK;refine O.perm (List.Perm.cons _ List.perm_append_comm) ?_;simp only [List.cons_append,List.nil_append];refine O.bw rfl (.bk kX rfl rfl bn ai aT) ?_;refine O.nil<|S.qM fun a w hf hd hw=>?_;exact u4 results368 kX hf rfl bq aa (Vc hw fun w hw=>Holds.end_ hR hw ⟨_,.inr (.inl ⟨rfl,rfl,v',ζ,hK,rfl⟩),by repeat (first|exact aW|exact aY|(apply aX;focus (repeat (first|exact aU|apply zt)))|apply aZ)⟩)
theorem Ve {g:bh} {bz bU:Nat} {x:Value} {fO :TypeId} {w:World} {R:Ending→World→Prop} {U:List az} (hw:Holds w g (obj bU fO [x]::U)) (hR:∀ w,Holds w g (obj bU fO [x]::U)→R (.returned x) w) :
  CallsD prog 392 #[.pointer (some ⟨bz,0,none⟩),.pointer (some ⟨bU,0,none⟩)] .returning w (sw g bU R):=by
 refine (nO (R:=fun e w=>(∃ v,e=.returned v)∧Holds w g (obj bU fO [x]::U)) [.pointer (some ⟨bz,0,none⟩),.pointer (some ⟨bU,0,none⟩)] rfl func392 rfl rfl rfl rfl hw ?_).mono ?_
 rotate_left
 ·rintro e u' w' ⟨rfl,⟨v,rfl⟩,h⟩
  exact ⟨⟨v,rfl⟩,rfl,fO,x,U,h,hR w' h⟩
 refine S.seq<|S.region rfl<|O.q 1 rfl<|O.op (.p rfl) (.u9 underlying20 rfl)<|O.nil<|S.aP rfl<|S.skip<|S.ej results392 fun w hw=>?_;exact ⟨⟨_,rfl⟩,hw⟩
theorem Vd {g:bh} {bz bU b:Nat} {v x:Value} {made bad:Bool} {fO vN:TypeId} {w:World} {R:Ending→World→Prop} {U:List az} (hw:Holds w g (obj bU fO [x]::obj bz vN [.pointer (some ⟨b,0,none⟩)]::obj b 441 [v,.bool made,.bool bad]::U))
  (hR:∀ w,Holds w g (obj bU fO [.int .i64 0]::obj b 441 [v,.bool made,.bool true]::U)→R (.returned (.int .i64 0)) w) :
  CallsD prog 392 #[.pointer (some ⟨bz,0,none⟩),.pointer (some ⟨bU,0,none⟩)] (.panicking missing) w (sw g bU R):=by
 refine (nO (R:=fun e w=>(∃ v,e=.returned v)∧Holds w g (obj bU fO [.int .i64 0]::obj b 441 [v,.bool made,.bool true]::U)) [.pointer (some ⟨bz,0,none⟩),.pointer (some ⟨bU,0,none⟩)] rfl func392 rfl rfl rfl rfl hw ?_).mono ?_
 rotate_left
 ·rintro e u' w' ⟨rfl,⟨v,rfl⟩,h⟩
  exact ⟨⟨v,rfl⟩,rfl,fO,_,_,h,hR w' h⟩
 refine S.seq<|S.region rfl<|O.q 1 rfl<|O.op (.p rfl) (.u_ underlying20 rfl)<|O.nil<|S.bC rfl<|S.seq<|S.seq<|S.region rfl<|O.q 1 rfl<|O.op (.p rfl) (.uv underlying459 rfl)<|O.q 3 rfl<|O.aO (.p rfl) (.alloc (cs:=[]) zeroValue459 rfl) ?_;rintro _ _ ⟨b3,rfl,rfl⟩;refine O.bw rfl (.cZ aa rfl rfl rfl rfl ai aT) ?_;refine O.q 1 rfl<|O.nil<|S.seq<|S.region rfl<|O.q 1 rfl<|O.op (.p rfl) (.not rfl)<|O.nil<|S.aP rfl<|S.skip<|S.seq<|S.region rfl<|O.op (.p rfl) (.lo oG) ?_;refine O.op (.p rfl) (.nilCheck rfl)<|O.op (.p rfl) (.aF yZ rfl)<|O.bw rfl (.bk ic rfl rfl bn ai aT) ?_;refine O.nil<|S.seq<|S.region rfl<|O.q 1 rfl<|O.nil<|S.region rfl<|O.q 1 rfl<|O.bw rfl (.bk cv rfl rfl bn ai aT) ?_;refine O.nil<|S.ej results392 fun w hw=>?_;exact ⟨⟨_,rfl⟩,hw.jH jM⟩
theorem KH {r:Fr} {b f:Nat} {v:Value} {made bad:Bool} {first cap:Array Value} {K:Value→Value→List az→Prop} {X:Value→Prop} (hc:dr prog f=true) (oK:∀ u v' ζ,K u v' ζ→u.oneCell' =true)
  (con:made=true→bad=false→ay prog f (first++#[]++cap) r [obj b 441 [v,.bool true,.bool false]] (ey (fun u U=>∃ v' ζ,K u v' ζ∧U=obj b 441 [v',.bool true,.bool false]::ζ) (fun ch U=>ch=missing∧∃ v',X v' ∧U=[obj b 441 [v',.bool true,.bool false]]))) :
  ay prog 374 #[.pointer (some ⟨b,0,none⟩),.func (.func f) first cap] r [obj b 441 [v,.bool made,.bool bad]] (aM fun u U =>
   ((made && !bad)=false∧u=.int .i64 0∧U=[obj b 441 [v,.bool made,.bool bad]])∨(made=true∧bad=false∧∃ v' ζ,K u v' ζ∧U=obj b 441 [v',.bool true,.bool false]::ζ) ∨
   (made=true∧bad=false∧∃ v',X v' ∧u=.int .i64 0∧U=[obj b 441 [v',.bool true,.bool true]])):=by
 refine ay.of (n:=12) [.pointer (some ⟨b,0,none⟩),.func (.func f) first cap] rfl func374 rfl rfl rfl fun g hg R hR=>?_;refine S.seq<|S.region rfl<|O.aO (.p rfl) (.box (cs:=[_]) rfl rfl) ?_;rintro _ _ ⟨b2,rfl,rfl⟩;refine O.aO (.p rfl) (.alloc (cs:=[.int .i64 0]) zeroValue3 rfl) ?_;rintro _ _ ⟨b4,rfl,rfl⟩;refine O.nil<|S.seq<|S.seq<|S.region rfl<|O.op (.p rfl) (.lo oG) ?_;refine O.bD (.p rfl) rfl aa rfl rfl ai Ah ?_;rintro _ _ ⟨rfl,rfl⟩
 try simp only [an,aq,au]
 refine O.op (.p rfl) ((by first|exact .k7 rfl|exact .not rfl)) ?_;refine O.nil ?_
 first|refine S.ct rfl (fun h7=>?_) (fun h7=>?_)|refine S.cm rfl (fun h7=>?_) (fun h7=>?_)
 ·refine S.seq<|S.region rfl<|O.op (.p rfl) (.lo cv) ?_
  refine O.bw rfl (.bk cv rfl rfl bn ai aT) ?_;refine O.nil<|S.EJ results374 cv rfl ai fun w hw=>Holds.end_ hR hw ?_;exact pk (.inl ⟨by revert h7;cases made<;>cases bad<;>simp,rfl,rfl⟩)
 ·obtain ⟨rfl,rfl⟩:made=true∧bad=false:=by revert h7;cases made<;>cases bad<;>simp
  refine S.skip<|S.seq<|S.region rfl<|O.op (.p rfl) (.iS rfl rfl)<|O.defer rfl rfl rfl rfl ?_;refine O.nil<|S.seq<|S.region rfl<|O.q 1 rfl<|O.BE (.p rfl) rfl hc rfl rfl ai ((con rfl rfl).sub hg) (fun a ch ax w hF hX hW=>by (obtain ⟨rfl,v',wA,rfl⟩:=hX;exact u4 results374 cv hF rfl bq aa (Vd (hW.jH jM) fun w hw=>Holds.end_ hR hw ⟨_,.inr (.inr ⟨rfl,rfl,v',wA,rfl,rfl⟩),by repeat (first|exact aW|exact aY|(apply aX;focus (repeat (first|exact aU|apply zt)))|apply aZ)⟩))) ?_;rintro v11 _ ⟨v',ζ,hK,rfl⟩
  try simp only [an,aq,au]
  have hone:=oK _ _ _ hK;refine O.perm (List.Perm.cons _ List.perm_append_comm) ?_;simp only [List.cons_append,List.nil_append];refine O.bw rfl (.bk cv rfl rfl bn ai aT) ?_;refine O.nil<|S.qM fun a w hf hd hw=>?_;exact u4 results374 cv hf rfl bq aa (Ve hw fun w hw=>Holds.end_ hR hw ⟨_,.inr (.inl ⟨rfl,rfl,v',ζ,hK,rfl⟩),by repeat (first|exact aW|exact aY|(apply aX;focus (repeat (first|exact aU|apply zt)))|apply aZ)⟩)
theorem Vq {g:bh} {bz bU:Nat} {x:Value} {fO :TypeId} {w:World} {R:Ending→World→Prop} {U:List az} (hw:Holds w g (obj bU fO [x]::U)) (hR:∀ w,Holds w g (obj bU fO [x]::U)→R (.returned x) w) :
  CallsD prog 390 #[.pointer (some ⟨bz,0,none⟩),.pointer (some ⟨bU,0,none⟩)] .returning w (sw g bU R):=by
 refine (nO (R:=fun e w=>(∃ v,e=.returned v)∧Holds w g (obj bU fO [x]::U)) [.pointer (some ⟨bz,0,none⟩),.pointer (some ⟨bU,0,none⟩)] rfl func390 rfl rfl rfl rfl hw ?_).mono ?_
 rotate_left
 ·rintro e u' w' ⟨rfl,⟨v,rfl⟩,h⟩
  exact ⟨⟨v,rfl⟩,rfl,fO,x,U,h,hR w' h⟩
 refine S.seq<|S.region rfl<|O.q 1 rfl<|O.op (.p rfl) (.u9 underlying20 rfl)<|O.nil<|S.aP rfl<|S.skip<|S.ej results390 fun w hw=>?_;exact ⟨⟨_,rfl⟩,hw⟩
theorem Vp {g:bh} {bz bU b:Nat} {v x:Value} {made bad:Bool} {fO vN:TypeId} {w:World} {R:Ending→World→Prop} {U:List az} (hw:Holds w g (obj bU fO [x]::obj bz vN [.pointer (some ⟨b,0,none⟩)]::obj b 441 [v,.bool made,.bool bad]::U))
  (hR:∀ w,Holds w g (obj bU fO [.slice none 0 0]::obj b 441 [v,.bool made,.bool true]::U)→R (.returned (.slice none 0 0)) w) :
  CallsD prog 390 #[.pointer (some ⟨bz,0,none⟩),.pointer (some ⟨bU,0,none⟩)] (.panicking missing) w (sw g bU R):=by
 refine (nO (R:=fun e w=>(∃ v,e=.returned v)∧Holds w g (obj bU fO [.slice none 0 0]::obj b 441 [v,.bool made,.bool true]::U)) [.pointer (some ⟨bz,0,none⟩),.pointer (some ⟨bU,0,none⟩)] rfl func390 rfl rfl rfl rfl hw ?_).mono ?_
 rotate_left
 ·rintro e u' w' ⟨rfl,⟨v,rfl⟩,h⟩
  exact ⟨⟨v,rfl⟩,rfl,fO,_,_,h,hR w' h⟩
 refine S.seq<|S.region rfl<|O.q 1 rfl<|O.op (.p rfl) (.u_ underlying20 rfl)<|O.nil<|S.bC rfl<|S.seq<|S.seq<|S.region rfl<|O.q 1 rfl<|O.op (.p rfl) (.uv underlying459 rfl)<|O.q 3 rfl<|O.aO (.p rfl) (.alloc (cs:=[]) zeroValue459 rfl) ?_;rintro _ _ ⟨b3,rfl,rfl⟩;refine O.bw rfl (.cZ aa rfl rfl rfl rfl ai aT) ?_;refine O.q 1 rfl<|O.nil<|S.seq<|S.region rfl<|O.q 1 rfl<|O.op (.p rfl) (.not rfl)<|O.nil<|S.aP rfl<|S.skip<|S.seq<|S.region rfl<|O.op (.p rfl) (.lo oG) ?_;refine O.op (.p rfl) (.nilCheck rfl)<|O.op (.p rfl) (.aF yZ rfl)<|O.bw rfl (.bk ic rfl rfl bn ai aT) ?_;refine O.nil<|S.seq<|S.region rfl<|O.q 1 rfl<|O.nil<|S.region rfl<|O.q 1 rfl<|O.bw rfl (.bk bg rfl rfl bn ai aT) ?_;refine O.nil<|S.ej results390 fun w hw=>?_;exact ⟨⟨_,rfl⟩,hw.jH jM⟩
theorem Vo {r:Fr} {b f:Nat} {v:Value} {made bad:Bool} {first cap:Array Value} {K:Value→Value→List az→Prop} {X:Value→Prop} (hc:dr prog f=true) (oK:∀ u v' ζ,K u v' ζ→u.oneCell' =true)
  (con:made=true→bad=false→ay prog f (first++#[]++cap) r [obj b 441 [v,.bool true,.bool false]] (ey (fun u U=>∃ v' ζ,K u v' ζ∧U=obj b 441 [v',.bool true,.bool false]::ζ) (fun ch U=>ch=missing∧∃ v',X v' ∧U=[obj b 441 [v',.bool true,.bool false]]))) :
  ay prog 370 #[.pointer (some ⟨b,0,none⟩),.func (.func f) first cap] r [obj b 441 [v,.bool made,.bool bad]] (aM fun u U =>
   ((made && !bad)=false∧u=.slice none 0 0∧U=[obj b 441 [v,.bool made,.bool bad]])∨(made=true∧bad=false∧∃ v' ζ,K u v' ζ∧U=obj b 441 [v',.bool true,.bool false]::ζ) ∨
   (made=true∧bad=false∧∃ v',X v' ∧u=.slice none 0 0∧U=[obj b 441 [v',.bool true,.bool true]])):=by
 refine ay.of (n:=12) [.pointer (some ⟨b,0,none⟩),.func (.func f) first cap] rfl func370 rfl rfl rfl fun g hg R hR=>?_;refine S.seq<|S.region rfl<|O.aO (.p rfl) (.box (cs:=[_]) rfl rfl) ?_;rintro _ _ ⟨b2,rfl,rfl⟩;refine O.aO (.p rfl) (.alloc (cs:=[.slice none 0 0]) zeroValue24 rfl) ?_;rintro _ _ ⟨b4,rfl,rfl⟩;refine O.nil<|S.seq<|S.seq<|S.region rfl<|O.op (.p rfl) (.lo oG) ?_;refine O.bD (.p rfl) rfl aa rfl rfl ai Ah ?_;rintro _ _ ⟨rfl,rfl⟩
 try simp only [an,aq,au]
 refine O.op (.p rfl) ((by first|exact .k7 rfl|exact .not rfl)) ?_;refine O.nil ?_
 first|refine S.ct rfl (fun h7=>?_) (fun h7=>?_)|refine S.cm rfl (fun h7=>?_) (fun h7=>?_)
 ·refine S.seq<|S.region rfl<|O.op (.p rfl) (.lo bg) ?_
  refine O.bw rfl (.bk bg rfl rfl bn ai aT) ?_;refine O.nil<|S.EJ results370 bg rfl ai fun w hw=>Holds.end_ hR hw ?_;exact pk (.inl ⟨by revert h7;cases made<;>cases bad<;>simp,rfl,rfl⟩)
 ·obtain ⟨rfl,rfl⟩:made=true∧bad=false:=by revert h7;cases made<;>cases bad<;>simp
  refine S.skip<|S.seq<|S.region rfl<|O.op (.p rfl) (.iS rfl rfl)<|O.defer rfl rfl rfl rfl ?_;refine O.nil<|S.seq<|S.region rfl<|O.q 1 rfl<|O.BE (.p rfl) rfl hc rfl rfl ai ((con rfl rfl).sub hg) (fun a ch ax w hF hX hW=>by (obtain ⟨rfl,v',wA,rfl⟩:=hX;exact u4 results370 bg hF rfl bq aa (Vp (hW.jH jM) fun w hw=>Holds.end_ hR hw ⟨_,.inr (.inr ⟨rfl,rfl,v',wA,rfl,rfl⟩),by repeat (first|exact aW|exact aY|(apply aX;focus (repeat (first|exact aU|apply zt)))|apply aZ)⟩))) ?_;rintro v11 _ ⟨v',ζ,hK,rfl⟩
  try simp only [an,aq,au]
  have hone:=oK _ _ _ hK;refine O.perm (List.Perm.cons _ List.perm_append_comm) ?_;simp only [List.cons_append,List.nil_append];refine O.bw rfl (.bk bg rfl rfl bn ai aT) ?_;refine O.nil<|S.qM fun a w hf hd hw=>?_;exact u4 results370 bg hf rfl bq aa (Vq hw fun w hw=>Holds.end_ hR hw ⟨_,.inr (.inl ⟨rfl,rfl,v',ζ,hK,rfl⟩),by repeat (first|exact aW|exact aY|(apply aX;focus (repeat (first|exact aU|apply zt)))|apply aZ)⟩)
end Go.Proofs.YtojafegjlahajaaGreatDoor
