/- Texts of this proof. -/
import Derived.Test.YtojafegjlahajaaGreatDoorQSpJoin3
import Derived.Test.YtojafegjlahajaaGreatDoorQTree2
open Go Go.Sp Go.Proofs.Tryz
set_option maxRecDepth 100000
set_option maxHeartbeats 1000000
attribute [local irreducible] obj Own av
namespace Go.Proofs.YtojafegjlahajaaGreatDoor
def mB (l:List aQ):Option (List aQ):=if gV l=true then some (i_ l) else none
theorem KY {h:Fr}:∀ {ak:List (List Value)} {xs:List aQ},bY (bK.rel h) ak xs→∃ ps:List g_,ps.map (·.1)=ak∧ps.map (·.2)=xs∧∀ q∈ps,bK.rel h q.1 q.2
 |[],[],_=>⟨[],rfl,rfl,fun _ h=>by cases h⟩
 |c::ak,x::xs,⟨h1,h2⟩=>by
  obtain ⟨ps,e1,e2,b6⟩:=KY h2;exact ⟨(c,x)::ps,by rw [← e1];rfl,by rw [← e2];rfl,fun q hq=>by
   rcases List.mem_cons.1 hq with rfl|hq
   ·exact h1
   ·exact b6 q hq⟩
theorem Tr {x:aQ} (h:ea x=true):l6 (b7 x)=some x:=JN.2 ⟨h,rfl⟩
theorem UL {r:Fr} {b:Nat} {xs:List aQ} (hrow:q3 r b xs) (ho:∀ x∈xs,ea x=true) (hl:xs.length≤100000000000) :
  ay prog 242 #[.pointer (some ⟨b,0,none⟩)] r [] (aM fun v U=>∃ a c,v=.slice a xs.length c∧U=[c_ (eH cS) 102 (.slice a xs.length c) xs]):=by
 obtain ⟨pT,r0,iO,oQ⟩:=hrow;refine ay.of (n:=32) _ rfl func242 rfl rfl rfl fun g hg R hR=>?_;have iO:=iO.mono hg;have oQ:=oQ.mono hg;refine S.seq<|S.region rfl<|O.q 1 rfl<|O.nil<|S.seq<|S.region rfl<|O.q 1 rfl<|O.nil<|S.seq<|S.seq<|S.tC (eH cS) 102 ?_;refine S.region rfl<|O.q 1 rfl<|O.op (.p rfl) (.nilCheck rfl)<|O.op (.p rfl) (.fieldAddr iX rfl)<|O.op (.p rfl) (.loadAt iW rfl iO rfl) ?_;refine O.op (.p rfl) (.len rfl underlying216 rfl)<|O.q 1 rfl<|O.nil<|S.block<|S.jG (ι:=Nat) (dB:=Option Addr × Nat) (fun i s=>i≤xs.length) (fun i s=>[(13,.int .i64 (i:Int)),(3,.slice s.1 (xs.take i).length s.2)]) [(11,_),(12,_)] (fun i s=>[c_ (eH cS) 102 (.slice s.1 (xs.take i).length s.2) (xs.take i)]) (fun i s=>xs.length - i) (0) ((none,0)) bq (.cons rfl (.cons rfl (.nil))) (.cons rfl (.cons rfl (.nil))) rfl fun i s hx ih=>?_;have bl:=cW (g:=g);refine S.seq<|S.region rfl<|O.op (.p rfl) (.lss rfl rfl)<|O.nil (S.seq ?_)
 first|refine S.ct rfl (fun jh=>?_) (fun jh=>?_)|refine S.cm rfl (fun jh=>?_) (fun jh=>?_)
 ·have hi:i<xs.length:=by omega
  have hok:=ho _ (List.getElem_mem hi);have kY:=Aj hok;have XE:(xs.take i).length=i:=by simp;omega
  refine S.skip<|S.seq<|S.block<|S.seq<|S.region rfl<|O.b_ (.p rfl) underlying216 gz rfl rfl rfl (by first|assumption|exact aj.mono hg aB|exact aj.left aB|exact aj.left (aj.mono hg aB)) (h:=fun xN v_ gR kN=>?_);obtain ⟨PK,PO,PU,PY,P5,P9,Qc,Qg,rfl,HY,CO⟩:=bK.sh kN;refine O.op (.p rfl) (.bI isAgg220 aa rfl gR) ?_;refine O.aO (.p rfl) (.alloc (cs:=[.string ⟨#[]⟩,.int .i64 0,.int .i64 0,.slice none 0 0,.bool false,.slice none 0 0,.slice none 0 0,.slice none 0 0]) zeroValue220 rfl) ?_;rintro _ _ ⟨gK,rfl,rfl⟩;refine O.bw rfl (.cZ aa rfl rfl rfl rfl ai aT) ?_;refine O.nil<|S.seq<|S.c7 (b:=gK) (cs' :=[.string (str xs[i].1),.int .i64 xs[i].2.1,.int .i64 xs[i].2.2.1,.slice PK xs[i].2.2.2.1.length P5,.bool xs[i].2.2.2.2.1,.slice PO xs[i].2.2.2.2.2.1.length P9,.slice PU xs[i].2.2.2.2.2.2.1.length Qc,.slice PY (b7 xs[i]).length Qg]) ai rfl ?_;refine S.cV ai fun g hs hm dX=>?_;replace hg:=Fr.aI hg hs;replace hR:=bt hR hm
  try replace iO:=iO.mono hs
  try replace oQ:=oQ.mono hs
  try replace gR:=gR.mono hs
  try replace CO:=CO.mono hs
  try replace kN:=kN.mono hs
  try replace HY:=HY.mono hs
  replace bl:=eD bl hm;clear hs hm;refine S.region rfl<|O.op (.p rfl) (.fieldAddr yY rfl)<|O.op (.p rfl) (.loadAt bg rfl (dX.drop 7) rfl) ?_;refine O.aC (.p rfl) rfl aa rfl rfl ((Ta (Tr hok) CO ah)) ?_;rintro _ _ ⟨a3,c3,a5,dM,a6,dD,rfl,rfl⟩
  try simp only [an,aq,au]
  refine O.q 3 rfl<|O.aO (.p rfl) (.alloc (cs:=[.string ⟨#[]⟩,.int .i64 0,.int .i64 0,.slice none 0 0,.bool false,.slice none 0 0,.slice none 0 0]) zeroValue102 rfl) ?_;rintro _ _ ⟨gh,rfl,rfl⟩;refine O.bw rfl (.cZ aa rfl rfl rfl rfl ai aT) ?_;refine O.q 1 rfl<|O.nil<|S.seq<|S.region rfl<|O.q 1 rfl<|O.op (.p rfl) (.eql rfl rfl)<|O.sT 24 rfl zE ?_;refine O.kH (.p rfl) rfl aa rfl rfl (pW _) (fun ch ax w hX hW=>by (exact absurd hX.1 bq)) ?_;rintro _ _ ⟨W3,rfl,rfl⟩
  try simp only [an,aq,au]
  refine O.nil<|S.xz (k' :=7) rfl ai fun ak dY=>?_;rw [← dY];refine S.region rfl<|O.q 1 rfl<|O.op (.p rfl) (.gU (news:=[_,_,_,_,_,_,_]) isAgg102) ?_;refine O.aO (.p rfl) (.cn (T:=(ag.cells 7)) (ys:=[_]) underlying22 yN zE rfl rfl ⟨⟨rfl,rfl,by first|(simp;done)|(intro v hv;simp [Value.cells] at hv;rcases hv with rfl|rfl<;>rfl)|(refine List.forall_mem_cons.2 ⟨rfl,?_⟩;repeat (first|exact (fun _ h=>absurd h List.not_mem_nil)|refine List.forall_mem_cons.2 ⟨rfl,?_⟩))⟩,trivial⟩ zE) ?_;rintro _ _ ⟨a28,yx,rfl,rfl⟩;refine O.aO (.p rfl) (.gJ (T:=(ag.cells 7)) underlying22 yN zE rfl rfl ai ai bL bL) ?_;rintro _ _ ⟨a29,Bu,rfl,rfl⟩;refine O.q 1 rfl<|O.nil<|S.inBlock<|S.region rfl<|O.op (.p rfl) (.add rfl rfl (IntWalk.i64_in _ ah))<|O.q 1 rfl<|O.nil<|S.cg (A:=(eH cS).own (tM xs[i] (.slice a3 xs[i].2.2.2.1.length c3) (.slice a5 xs[i].2.2.2.2.2.1.length dM) (.slice a6 xs[i].2.2.2.2.2.2.1.length dD)) xs[i]) (bs:=xR xs[i] (.slice a3 xs[i].2.2.2.1.length c3) (.slice a5 xs[i].2.2.2.2.2.1.length dM) (.slice a6 xs[i].2.2.2.2.2.2.1.length dD)) aV (fun m h=>JM hok h) ?_;refine S.xA (G:=eH cS) (k' :=7) rfl ai ai ai ?_;rw [show xs.take i++[xs[i]]=xs.take (i+1) from (List.take_succ_eq_append_getElem hi).symm];simp only [List.length_singleton];rw [show ak.length+1=(xs.take (i+1)).length from by rw [dY];simp;omega]
  exact S.iR bl (S.pw (ih (i+1) ((a29,Bu)) ah ah))
 ·clear ih
  have hi:i=xs.length:=by omega
  subst hi;rw [List.take_length];refine S.exit rfl<|S.seq<|S.region rfl<|O.q 2 rfl<|O.nil ?_;exact S.rt results242 rfl hR ⟨s.1,s.2,rfl,rfl⟩
theorem Qs {ss:List (List aQ)} {i:Nat} (h:gV (ss.take i).flatten=false):mB ss.flatten=none:=by
 have:gV ss.flatten≠true:=fun q=>by
  rw [show gV (ss.take i).flatten=true from Sd q fun x hx=>by
   obtain ⟨l,h1,h2⟩:=List.mem_flatten.1 hx;exact List.mem_flatten.2 ⟨l,List.mem_of_mem_take h1,h2⟩] at h
  cases h
 rw [mB,if_neg this]
def A1 (l:List aQ) (v:Value) (U:List az):Prop:=∃ o a c,mB l=some o∧v=.slice a o.length c∧U=[c_ (eH cS) 102 (.slice a o.length c) o]
theorem sM {ss:List (List aQ)} {i:Nat} (hi:i<ss.length):(ss.take (i+1)).flatten=(ss.take i).flatten++ss[i]:=by
 rw [List.take_succ_eq_append_getElem hi,List.flatten_append];simp
theorem M9 {ss:List (List aQ)} (i:Nat):(ss.take i).flatten.length≤ss.flatten.length:=by
 have h:=congrArg (fun l=>(List.flatten l).length) (List.take_append_drop i ss);simp only [List.flatten_append,List.length_append] at h
 omega
theorem Q3 (l:List aQ):(i_ l).length≤l.length:=by
 unfold i_ rR qh;exact Nat.le_trans (List.length_filter_le ..) (Nat.le_trans (BL ..) (Nat.le_of_eq (UG ..)))
theorem Ki {r:Fr} {p:Nat} {va:Value} {ss:List (List aQ)} (hp:At r ⟨p,0,none⟩ [va]) (ha:aj (ag.slice dc) r va ss) (hl:ss.flatten.length≤100000000000) :
  ay prog 240 (#[]++#[]++#[.pointer (some ⟨p,0,none⟩)]) r [] (ey (fun v U=>A1 ss.flatten v U) (fun ch U=>∃ z,ch=oE 44 z∧(mB ss.flatten=none∧z=4)∧U=[])):=by
 have har:=ha;refine ay.of (n:=25) [.pointer (some ⟨p,0,none⟩)] rfl func240 rfl rfl rfl fun g hg R hR=>?_;have hp:=hp.mono hg;have ha:=ha.mono hg;have hbd:=ha.bound;obtain ⟨a1,c1,rfl⟩:=ha.shape;refine S.seq<|S.region rfl<|O.q 1 rfl<|O.nil<|S.seq<|S.region rfl<|O.op (.p rfl) (.build (cs:=[_]) underlying306 rfl rfl rfl rfl rfl)<|O.aO (.p rfl) (.box (cs:=[_]) rfl rfl) ?_;rintro _ _ ⟨gh,rfl,rfl⟩;refine O.q 1 rfl<|O.nil<|S.seq<|S.seq<|S.conv (B:=obj gh 306 [.slice none 0 0]) (C:=e_ r 306 220 5 gh (ss.take 0).flatten) ai (fun m x=>⟨m,Fr.bW _,e_.nil x⟩) ?_;refine S.region rfl<|O.op (.p rfl) (.loadAt M5 rfl hp rfl) ?_;refine O.op (.p rfl) (.len rfl underlying169 rfl)<|O.q 1 rfl<|O.nil<|S.block<|S.fT (ι:=Nat) (fun i=>i≤ss.length∧gV (ss.take i).flatten=true) (fun i=>[(9,.int .i64 (i:Int))]) [(2,_),(7,_),(8,_)] (fun i=>[e_ r 306 220 5 gh (ss.take i).flatten]) (fun i=>ss.length - i) (0) (by exact ⟨by simp,rfl⟩) (.cons rfl (.nil)) (.cons rfl (.cons rfl (.cons rfl (.nil)))) rfl fun i hx ih=>?_;have bl:=cW (g:=g);obtain ⟨hx1,hx2⟩:=hx;refine S.seq<|S.region rfl<|O.op (.p rfl) (.lss rfl rfl)<|O.nil (S.seq ?_)
 first|refine S.ct rfl (fun h10=>?_) (fun h10=>?_)|refine S.cm rfl (fun h10=>?_) (fun h10=>?_)
 ·have hi:i<ss.length:=by omega
  have hst:=sM hi;have pL:=M9 (ss:=ss) (i+1);have uT:(ss.take i).flatten.length+ss[i].length≤100000000000:=by rw [hst,List.length_append] at pL;omega
  refine S.skip<|S.seq<|S.block<|S.seq<|S.region rfl<|O.ib (.p rfl) underlying169 Uy rfl rfl rfl har hg (h:=fun SB Mv Db H_=>?_);have HX:=ag.rel.mono H_ hg;obtain ⟨v11,rfl,CG⟩:=H_;refine O.op (.p rfl) (.loadAt eN rfl Db rfl) ?_;refine O.q 1 rfl<|O.nil<|S.region rfl<|O.q 1 rfl<|O.op (.p rfl) (.nilCheck rfl)<|O.op (.p rfl) (.aF qn rfl)<|O.q 1 rfl<|O.qd (.p rfl) rfl aa rfl rfl ai ((J9 CG hx2 uT).sub hg) (fun ch ax w hX hW=>by (obtain ⟨hb,rfl,rfl⟩:=hX;exact hR _ _ w ⟨4,rfl,⟨Qs (i:=i+1) (by rw [hst];exact hb),rfl⟩,rfl⟩ hW.qi)) ?_;rintro _ _ ⟨hone,rfl,rfl⟩
  try simp only [an,aq,au]
  refine O.nil (S.inBlock ?_);rw [← hst] at hone ⊢;refine S.region rfl<|O.op (.p rfl) (.add rfl rfl (IntWalk.i64_in _ ah))<|O.q 1 rfl<|O.nil ?_;exact S.dH (ih (i+1) (by exact ⟨by omega,hone⟩) ah)
 ·clear ih
  have hi:i=ss.length:=by omega
  subst hi;rw [List.take_length] at hx2 ⊢;generalize hxs:ss.flatten=xs at hx2 hl ⊢;have hok:=qL hx2;have n4:mB xs=some (i_ xs):=by rw [mB,if_pos hx2]
  refine S.open (A:=e_ r 306 220 5 gh xs) ai (fun m x=>x) fun q=>?_;simp only [List.cons_append,List.nil_append];refine S.eC (A:=b5 (lq r 5) q.2 xs) ai fun g hs hm ⟨_,x',s'⟩=>?_;have wK:=(fun s x=>b5.sB (A:=lq r 5) (fun cs a m' z w=>lq.rel (Fr.aI hg hs) w z) x s) s' x';clear x' s';replace hg:=Fr.aI hg hs;replace hR:=bt hR hm
  try replace hp:=hp.mono hs
  try replace ha:=ha.mono hs
  replace bl:=eD bl hm;clear hs hm;obtain ⟨ps,hp1,hp2,hps⟩:=KY wK;have mz:xs.length=ps.length:=by rw [← hp2,List.length_map]
  rw [← hp1,mz];have O0:∀ p∈ps,ea p.2=true:=fun p hp=>hok _ (by rw [← hp2];exact List.mem_map.2 ⟨p,hp,rfl⟩);refine S.exit rfl<|S.seq<|S.region rfl<|O.q 1 rfl<|O.eL (.p rfl) rfl aa rfl rfl aV (VB hps O0 ah) ?_;rintro v20 _ ⟨jq,a20,yw,rfl,O2,O6,rfl⟩
  try simp only [an,aq,au]
  refine O.nil (S.seq ?_);have hjm:jq.map (·.2)=i_ xs:=by rw [O2,hp2]
  have Oj:∀ x∈i_ xs,ea x=true:=fun x hx=>hok x (Q7 hok x hx);have hjl:jq.length=(i_ xs).length:=by rw [← hjm,List.length_map]
  have hjb:(i_ xs).length≤100000000000:=Nat.le_trans (Q3 xs) hl;refine S.eC (A:=av (ag.cells 8) 220 (.slice a20 jq.length yw) (jq.map (·.1))) ai fun g hs hm ⟨_,x',s'⟩=>?_;have hqi:=(fun s x=>aj.j4 (T:=bK) ((av.arr x).mono s) (tr fun p hp=>ag.mono bK hs (O6 p hp)) rfl) s' x';clear x' s';replace hg:=Fr.aI hg hs;replace hR:=bt hR hm
  try replace hp:=hp.mono hs
  try replace ha:=ha.mono hs
  try replace wK:=wK.mono hs
  replace bl:=eD bl hm;clear hs hm;refine S.cV ai fun g hs hm fC=>?_;replace hg:=Fr.aI hg hs;replace hR:=bt hR hm
  try replace hp:=hp.mono hs
  try replace ha:=ha.mono hs
  try replace wK:=wK.mono hs
  try replace hqi:=hqi.mono hs
  try replace hqi:=hqi.mono hs
  replace bl:=eD bl hm;clear hs hm;have hrow:q3 g.h gh (i_ xs):=⟨a20,yw,by rw [← hjl];exact fC,by rw [← hjl,← hjm];exact hqi⟩;refine S.region rfl<|O.q 1 rfl<|O.op (.p rfl) (.nilCheck rfl)<|O.op (.p rfl) (.aF qn rfl)<|O.aC (.p rfl) rfl aa rfl rfl ((UL hrow Oj hjb)) ?_;rintro _ _ ⟨a24,kT,rfl,rfl⟩
  try simp only [an,aq,au]
  refine O.q 1 rfl<|O.nil ?_;exact S.rt results240 rfl hR ⟨i_ xs,a24,kT,by rw [hxs];exact n4,rfl,rfl⟩
def DR (l:List aQ) (v:Value) (U:List az):Prop:=(∃ u,A1 l u U∧v=.tuple #[u,.int .i64 0])∨(mB l=none∧v=.tuple #[.slice none 0 0,.int .i64 4]∧U=[])
theorem J8 {r:Fr} {first cap:Array Value} {l:List aQ} (con:ay prog 240 (first++#[]++cap) r [] (ey (fun v U=>A1 l v U) (fun ch U=>∃ z,ch=oE 44 z∧(mB l=none∧z=4)∧U=[]))) (h1:(Value.func (.func 240) first cap).oneCell' =true:=by rfl) :
  ay prog 239 #[.func (.func 240) first cap] r [] (aM fun v U=>DR l v U) :=
 (Vl aa h1 (fun _ _ h=>by obtain ⟨l,a,c,_,rfl,_⟩:=h;rfl) con).mono (aM.imp fun v U h=>by
  rcases h with ⟨u,h2,h3⟩|⟨z,⟨h2,rfl⟩,h3,h4⟩
  ·exact .inl ⟨u,h2,h3⟩
  ·exact .inr ⟨h2,h4,h3⟩)
theorem Ra {l o:List aQ} {v:Value} {U:List az} (e:mB l=some o) (h:DR l v U):∃ a c,v=.tuple #[.slice a o.length c,.int .i64 0]∧U=[c_ (eH cS) 102 (.slice a o.length c) o]:=by
 rcases h with ⟨_,⟨y,a,c,h1,rfl,rfl⟩,rfl⟩|⟨h1,_⟩
 ·rw [e] at h1;obtain rfl:=Option.some.inj h1;exact ⟨a,c,rfl,rfl⟩
 ·rw [e] at h1;cases h1
theorem Q_ {l:List aQ} {v:Value} {U:List az} (e:mB l=none) (h:DR l v U):v=.tuple #[.slice none 0 0,.int .i64 4]∧U=[]:=by
 rcases h with ⟨_,⟨y,a,c,h1,_⟩,_⟩|⟨_,h1,h2⟩
 ·rw [e] at h1;cases h1
 ·exact ⟨h1,h2⟩
def qF (l:List aQ):List aQ:=(mB l).getD []
def xm (l:List aQ):Int:=if (mB l).isSome then 0 else 4
theorem T4 {r:Fr} {va:Value} {ss:List (List aQ)} (ha:aj (ag.slice dc) r va ss) (hl:ss.flatten.length≤100000000000):ay prog 161 #[va] r [] (aM fun v U=>∃ a c,v=.tuple #[.slice a (qF ss.flatten).length c,.int .i64 (xm ss.flatten)]∧U=[c_ (eH cS) 102 (.slice a (qF ss.flatten).length c) (qF ss.flatten)]):=by
 refine ay.of (n:=8) _ rfl func161 rfl rfl rfl fun g hg R hR=>?_;have ha:=ha.mono hg;obtain ⟨a1,c1,rfl⟩:=ha.shape
 cases e:mB ss.flatten with
 |some x =>
  have e1:qF ss.flatten=x:=by simp [qF,e]
  have e2:xm ss.flatten=0:=by simp [xm,e]
  rw [e1,e2] at hR;refine S.seq<|S.region rfl<|O.aO (.p rfl) (.box (cs:=[_]) rfl rfl) ?_;rintro _ _ ⟨b1,rfl,rfl⟩;refine O.cV ai fun g hs hm kL=>?_;replace hg:=Fr.aI hg hs;replace hR:=bt hR hm
  try replace ha:=ha.mono hs
  clear hs hm;refine O.q 2 rfl<|O.nil<|S.seq<|S.region rfl<|O.op (.p rfl) (.iS rfl rfl)<|O.aC (.p rfl) rfl aa rfl rfl (((J8 (Ki kL ha hl)).mono (aM.imp fun _ _ h=>Ra e h))) ?_;rintro _ _ ⟨a5,dM,rfl,rfl⟩
  try simp only [an,aq,au]
  refine O.q 4 rfl<|O.nil<|S.lg results161 rfl rfl fun w hw=>Holds.end_ hR hw ?_;exact pk ⟨a5,dM,rfl,rfl⟩
 |none =>
  have e1:qF ss.flatten=[]:=by simp [qF,e]
  have e2:xm ss.flatten=4:=by simp [xm,e]
  rw [e1,e2] at hR;refine S.seq<|S.region rfl<|O.aO (.p rfl) (.box (cs:=[_]) rfl rfl) ?_;rintro _ _ ⟨b1,rfl,rfl⟩;refine O.cV ai fun g hs hm kL=>?_;replace hg:=Fr.aI hg hs;replace hR:=bt hR hm
  try replace ha:=ha.mono hs
  clear hs hm;refine O.q 2 rfl<|O.nil<|S.seq<|S.region rfl<|O.op (.p rfl) (.iS rfl rfl)<|O.aC (.p rfl) rfl aa rfl rfl (((J8 (Ki kL ha hl)).mono (aM.imp fun _ _ h=>Q_ e h))) ?_;rintro _ _ ⟨rfl,rfl⟩
  try simp only [an,aq,au]
  refine O.q 4 rfl<|O.nil<|S.tC (eH cS) 102 ?_;refine S.lg results161 rfl rfl fun w hw=>Holds.end_ hR hw ?_;exact pk ⟨none,0,rfl,rfl⟩
theorem Q4 {a:List aQ} (h:fG a):i_ a=a:=(Q2 (qL h.1) fun x=>by simp).trans (Q6 h)
theorem Q8 {a:List aQ} (h:fG a):qF [a].flatten=a:=by
 have:[a].flatten=a:=by simp
 rw [this,qF,mB,if_pos h.1,Q4 h];rfl
theorem z1 {r:Fr} {va:Value} {xs:List aQ} (ha:aj dc r va xs) (h:fG xs) (hl:xs.length≤100000000000) :
  ay prog 92 #[va] r [] (aM fun v U=>∃ a c,v=.slice a xs.length c∧U=[c_ (eH cS) 102 (.slice a xs.length c) xs]):=by
 obtain ⟨a1,c1,rfl⟩:=ha.shape;refine ay.of (n:=10) _ rfl func92 rfl rfl rfl fun g hg R hR=>?_;have ha:=ha.mono hg;have e:=Q8 h;refine S.seq<|S.region rfl<|O.q 1 rfl<|O.nil<|S.seq<|S.region rfl<|O.q 1 rfl<|O.aO (.p rfl) (.cn (T:=ag.cells 1) (ys:=[[.slice a1 xs.length c1]]) underlying169 MS zE rfl rfl ⟨⟨rfl,rfl,by first|(simp;done)|(intro v hv;simp [Value.cells] at hv;rcases hv with rfl|rfl<;>rfl)|(refine List.forall_mem_cons.2 ⟨rfl,?_⟩;repeat (first|exact (fun _ h=>absurd h List.not_mem_nil)|refine List.forall_mem_cons.2 ⟨rfl,?_⟩))⟩,trivial⟩ zE) ?_;rintro _ _ ⟨a5,dM,rfl,rfl⟩;refine O.fB ai fun g hs hm NI=>?_;replace hg:=Fr.aI hg hs;replace hR:=bt hR hm
 try replace ha:=ha.mono hs
 clear hs hm;refine O.aC (.p rfl) rfl aa rfl rfl ((T4 (ss:=[xs]) (aj.j4 NI ⟨⟨_,rfl,ha⟩,trivial⟩ rfl) bX)) ?_;rintro _ _ ⟨a6,dD,rfl,rfl⟩
 try simp only [an,aq,au]
 rw [e];refine O.q 4 rfl<|O.nil<|S.seq<|S.region rfl<|O.q 2 rfl<|O.nil ?_;exact S.rt results92 rfl hR ⟨a6,dD,rfl,rfl⟩
theorem tW {r:Fr} {va:Value} {n:List UInt8} {z:Int} (ha:aj ag.u8 r va n) (hz:cE z) (hH:At r ⟨0,0,none⟩ (bQ ed)) (hK:At r ⟨1,0,none⟩ (bQ fZ)) (hl:n.length≤1000000000000) :
  ay prog 24 #[.int .i64 z,va] r [] (aM fun v U=>∃ a c,v=.slice a (dw z n).length c∧U=[av ag.u8 5 (.slice a (dw z n).length c) (dw z n)]):=by
 obtain ⟨a1,c1,rfl⟩:=ha.shape;refine ay.of (n:=22) _ rfl func24 rfl rfl rfl fun g hg R hR=>?_;have ha:=ha.mono hg;have hH:=hH.mono hg;have hK:=hK.mono hg
 by_cases h1:0≤z∧z<4
 ·by_cases h2:n.length=64
  ·have e:dw z n=gY (4::Sp.byteOf z::n):=by unfold dw;rw [if_pos ⟨h1.1,h1.2,h2⟩]
   have e2:(dw z n).length=64:=by rw [e,o9]
   refine S.seq<|S.region rfl<|O.q 1 rfl<|O.nil<|S.seq<|S.seq<|S.region rfl<|O.q 1 rfl<|O.op (.p rfl) (.lss rfl rfl)<|O.aL 6 rfl (by exact decide_eq_false ah) ?_;refine O.q 2 rfl<|O.op (.g rfl rfl) (.geq rfl rfl)<|O.aL 9 rfl (by exact decide_eq_false ah) ?_;refine O.q 3 rfl<|O.op (.g rfl rfl) (.len rfl underlying24 rfl)<|O.op (.g rfl rfl) (.neq rfl rfl)<|O.aL 14 rfl (by exact decide_eq_false ah) ?_;refine O.q 1 rfl<|O.nil<|S.aP rfl<|S.skip<|S.seq<|S.region rfl<|O.q 1 rfl<|O.op (.p rfl) (.lD underlying3 underlying5 rfl)<|O.slot 17 (v' :=bH (Sp.byteOf z)) rfl (by exact KU z) ?_;refine O.aO (.p rfl) (.cn (T:=ag.u8) (ys:=[4,Sp.byteOf z]) underlying24 eM zE rfl rfl ⟨rfl,rfl,trivial⟩ zE) ?_;rintro _ _ ⟨jR,jU,rfl,rfl⟩;refine O.fB ai fun g hs hm CI=>?_;replace hg:=Fr.aI hg hs;replace hR:=bt hR hm
   try replace ha:=ha.mono hs
   try replace hH:=hH.mono hs
   try replace hK:=hK.mono hs
   clear hs hm;refine O.q 1 rfl<|O.aO (.p rfl) (.cn (T:=ag.cells 1) (ys:=[[.slice jR 2 jU],[.slice a1 n.length c1]]) underlying109 gr zE rfl rfl ⟨⟨rfl,rfl,by first|(simp;done)|(intro v hv;simp [Value.cells] at hv;rcases hv with rfl|rfl<;>rfl)|(refine List.forall_mem_cons.2 ⟨rfl,?_⟩;repeat (first|exact (fun _ h=>absurd h List.not_mem_nil)|refine List.forall_mem_cons.2 ⟨rfl,?_⟩))⟩,⟨rfl,rfl,by first|(simp;done)|(intro v hv;simp [Value.cells] at hv;rcases hv with rfl|rfl<;>rfl)|(refine List.forall_mem_cons.2 ⟨rfl,?_⟩;repeat (first|exact (fun _ h=>absurd h List.not_mem_nil)|refine List.forall_mem_cons.2 ⟨rfl,?_⟩))⟩,trivial⟩ zE) ?_;rintro _ _ ⟨a20,yw,rfl,rfl⟩;refine O.fB ai fun g hs hm ND=>?_;replace hg:=Fr.aI hg hs;replace hR:=bt hR hm
   try replace ha:=ha.mono hs
   try replace hH:=hH.mono hs
   try replace hK:=hK.mono hs
   try replace CI:=CI.mono hs
   clear hs hm;refine O.aC (.p rfl) rfl aa rfl rfl ((r_ (ps:=[[4,Sp.byteOf z],n]) (aj.j4 ND ⟨⟨_,rfl,CI⟩,⟨_,rfl,ha⟩,trivial⟩ rfl) hH hK bX)) ?_;rintro _ _ ⟨a21,Bs,rfl,rfl⟩
   try simp only [an,aq,au]
   refine O.q 1 rfl<|O.nil<|S.jm (T:=ag.u8) (e:=5) (v' :=.slice a21 (dw z n).length Bs) (xs' :=dw z n) ai (by rw [e2]) (by rw [e];simp) ?_;exact S.rt results24 rfl hR ⟨a21,Bs,by rw [e2],rfl⟩
  ·have e:dw z n=[]:=by unfold dw;rw [if_neg fun q=>h2 q.2.2]
   refine S.seq<|S.region rfl<|O.q 1 rfl<|O.nil<|S.seq<|S.seq<|S.region rfl<|O.q 1 rfl<|O.op (.p rfl) (.lss rfl rfl)<|O.aL 6 rfl (by exact decide_eq_false ah) ?_;refine O.q 2 rfl<|O.op (.g rfl rfl) (.geq rfl rfl)<|O.aL 9 rfl (by exact decide_eq_false ah) ?_;refine O.q 3 rfl<|O.op (.g rfl rfl) (.len rfl underlying24 rfl)<|O.op (.g rfl rfl) (.neq rfl rfl)<|O.sT 14 rfl (by exact decide_eq_true ah) ?_;refine O.q 1 rfl<|O.nil<|S.bC rfl<|S.seq<|S.region rfl<|O.q 1 rfl<|O.nil<|S.gd (T:=ag.u8) (e:=5) ?_;refine S.jm (T:=ag.u8) (e:=5) (v' :=.slice none (dw z n).length 0) (xs' :=dw z n) ai (by rw [e];rfl) e.symm ?_;exact S.rt results24 rfl hR ⟨none,0,by rw [e];rfl,rfl⟩
 ·have e:dw z n=[]:=by unfold dw;rw [if_neg fun q=>h1 ⟨q.1,q.2.1⟩]
  by_cases h3:z<0
  ·
   refine S.seq<|S.region rfl<|O.q 1 rfl<|O.nil<|S.seq<|S.seq<|S.region rfl<|O.q 1 rfl<|O.op (.p rfl) (.lss rfl rfl)<|O.sT 6 rfl (by exact decide_eq_true h3) ?_;refine O.q 9 rfl<|O.nil<|S.bC rfl<|S.seq<|S.region rfl<|O.q 1 rfl<|O.nil<|S.gd (T:=ag.u8) (e:=5) ?_;refine S.jm (T:=ag.u8) (e:=5) (v' :=.slice none (dw z n).length 0) (xs' :=dw z n) ai (by rw [e];rfl) e.symm ?_;exact S.rt results24 rfl hR ⟨none,0,by rw [e];rfl,rfl⟩
  ·
   refine S.seq<|S.region rfl<|O.q 1 rfl<|O.nil<|S.seq<|S.seq<|S.region rfl<|O.q 1 rfl<|O.op (.p rfl) (.lss rfl rfl)<|O.aL 6 rfl (by exact decide_eq_false h3) ?_;refine O.q 2 rfl<|O.op (.g rfl rfl) (.geq rfl rfl)<|O.sT 9 rfl (by exact decide_eq_true ah) ?_;refine O.q 6 rfl<|O.nil<|S.bC rfl<|S.seq<|S.region rfl<|O.q 1 rfl<|O.nil<|S.gd (T:=ag.u8) (e:=5) ?_;refine S.jm (T:=ag.u8) (e:=5) (v' :=.slice none (dw z n).length 0) (xs' :=dw z n) ai (by rw [e];rfl) e.symm ?_;exact S.rt results24 rfl hR ⟨none,0,by rw [e];rfl,rfl⟩
theorem Ja {r:Fr} {s:Nat} (hs:s<4):ay prog 29 #[.int .i64 (s:Int)] r [] (aM fun v U=>∃ b,v=.pointer (some ⟨b,0,none⟩)∧U=[bp aJ Fr.emp b s []]):=by
 refine ay.of (n:=13) _ rfl func29 rfl rfl rfl fun g hg R hR=>?_;refine S.seq<|S.region rfl<|O.q 1 rfl<|O.nil<|S.seq<|S.seq<|S.region rfl<|O.q 1 rfl<|O.op (.p rfl) (.lss rfl rfl)<|O.aL 4 rfl (by exact decide_eq_false ah) ?_;refine O.q 2 rfl<|O.op (.g rfl rfl) (.geq rfl rfl)<|O.aL 7 rfl (by exact decide_eq_false ah) ?_;refine O.q 1 rfl<|O.nil<|S.aP rfl<|S.skip<|S.seq<|S.region rfl<|O.q 1 rfl<|O.aO (.p rfl) (.o5 (enc:=encS)) ?_;rintro _ _ ⟨vS,rfl,rfl⟩;refine O.op (.p rfl) (.build (cs:=[_,_,_,_]) underlying77 rfl rfl rfl rfl rfl)<|O.aO (.p rfl) (.box (cs:=[_,_,_,_]) rfl rfl) ?_;rintro _ _ ⟨mV,rfl,rfl⟩;refine O.q 1 rfl<|O.nil<|S.cg (A:=bp aJ Fr.emp mV s []) (bs:=[obj mV 77 [.slice none 0 0,.slice none 0 0,.int .i64 (s:Int),.map (some vS)],cc encS vS [] 0]) aV (fun m h=>U9 h) ?_;exact S.rt results29 rfl hR ⟨mV,rfl,rfl⟩
attribute [local irreducible] cF bA
structure gH (r d:Fr) (s:Nat) (L:List aH):Prop where
 hd:d.sub r
 ok:gI s L
 small:L.length≤10000000∧∀ y∈L,y.2.1.length≤10000000
 hH:At r ⟨0,0,none⟩ (bQ ed)
 hK:At r ⟨1,0,none⟩ (bQ fZ)
theorem gH.mono {r r' d:Fr} {s:Nat} {L:List aH} (h:gH r d s L) (e:r.sub r'):gH r' d s L:=⟨Fr.aI h.hd e,h.ok,h.small,h.hH.mono e,h.hK.mono e⟩
def K6 (d:Fr) (b s:Nat) (L:List aH) (x:dJ) (v:Value) (U:List az):Prop:=∃ a1 k1 a2 k2 a3 aR,v=.agg #[bH x.1,.slice a1 x.2.1.length k1,.slice a2 x.2.2.1.length k2,.slice a3 x.2.2.2.1.length aR] ∧
 U=[bp aJ d b s L,av ag.u8 5 (.slice a1 x.2.1.length k1) x.2.1,av ag.u8 5 (.slice a2 x.2.2.1.length k2) x.2.2.1,c_ (ef cS) 31 (.slice a3 x.2.2.2.1.length aR) x.2.2.2.1]
def A2 (d:Fr) (s:Nat) (L:List aH) (n:Nat):Prop:=∀ ⦃r:Fr⦄ ⦃b:Nat⦄ ⦃p:List UInt8⦄ ⦃va:Value⦄ ⦃a:List Nat⦄,gH r d s L→p.length+n=510→kD p→aj ag.nat r va a→(∀ i∈a,i<L.length)→a.length≤10000000→gf L a=dG p L →
 ay prog 99 #[.pointer (some ⟨b,0,none⟩),.string (str p),va] r [bp aJ d b s L] (aM (K6 d b s L (cF L p)))
def vL (d:Fr) (s:Nat) (L:List aH) (n:Nat):Prop:=∀ ⦃r:Fr⦄ ⦃b:Nat⦄ ⦃p:List UInt8⦄ ⦃va:Value⦄ ⦃a:List Nat⦄,gH r d s L→p.length+n=510→kD p→aj ag.nat r va a→(∀ i∈a,i<L.length)→a.length≤10000000→gf L a=dG p L →
 ay prog 96 #[.pointer (some ⟨b,0,none⟩),.string (str p),va] r [bp aJ d b s L] (aM fun v U=>∃ a1 c1,v=.slice a1 64 c1∧U=[je aJ d b s L (.slice a1 64 c1) (bA L p)])
theorem R5 {m:Fr} {k:UInt8} {v1 v2 v3:Value} {l r:List UInt8} {lv:List aH} (h:Sat [av ag.u8 5 v1 l,av ag.u8 5 v2 r,c_ (ef cS) 31 v3 lv] m):ga.rel m [bH k,v1,v2,v3] (k,l,r,lv,()):=by
 obtain ⟨m1,m2,_,s1,s2,o1,m3,m4,_,s3,oh,o2,m5,_,_,xY,_,kP,_⟩:=h;have t3:=Fr.aI s3 s2;have t5:=Fr.aI xY (Fr.aI oh s2);exact ga.mk (o1.arr.mono s1) (o2.arr.mono t3) ((c_.arr kP).mono t5)
theorem Ku {d:Fr} {s:Nat} {L:List aH} {n:Nat} (hn:A2 d s L n):vL d s L n:=by
 intro r b p va a hT wZ hp ha dg hal nU
 obtain ⟨a1,c1,rfl⟩:=ha.shape;have ig:=qT hT.ok p;refine ay.of (n:=33) _ rfl func96 rfl rfl rfl fun g hg R hR=>?_;have hT:=hT.mono hg;have ha:=ha.mono hg;refine S.open (bs:=bP.ws aJ b s) ai (fun m x=>bp.gy x) fun x=>?_;simp only [bP.ws,List.cons_append,List.nil_append]
 cases e:cG x.M p with
 |some v =>
  obtain ⟨q,_,hv⟩:=(x.ok p v e).2;obtain ⟨a7,ia,hvs⟩:=hv.shape;rw [ig] at hvs;subst hvs;refine S.seq<|S.region rfl<|O.q 1 rfl<|O.nil<|S.seq<|S.region rfl<|O.q 1 rfl<|O.op (.p rfl) (.nilCheck rfl)<|O.op (.p rfl) (.aF pK rfl)<|O.op (.p rfl) (.lo kK) ?_;refine O.q 1 rfl<|O.op (.p rfl) (.nw underlying75 (o3 underlying9) zeroValue24 rfl rfl ai) ?_;refine O.slot 15 (v' :=.tuple #[.slice a7 64 ia,.bool true]) rfl (by rw [e];rfl) ?_;refine O.q 3 rfl<|O.sT 17 rfl aG ?_;refine O.q 2 rfl<|O.nil<|S.seq<|S.seq<|S.region rfl<|O.q 1 rfl<|O.op (.p rfl) (.not rfl)<|O.nil<|S.aP rfl<|S.skip<|S.seq<|S.region rfl<|O.q 2 rfl<|O.nil<|S.cg (A:=je aJ d b s L (.slice a7 64 ia) (bA L p)) (bs:=x.ws aJ b s) aV (fun m h=>je.fold x e h) ?_;exact S.rt results96 rfl hR ⟨a7,ia,rfl,rfl⟩
 |none =>
  refine S.seq<|S.region rfl<|O.q 1 rfl<|O.nil<|S.seq<|S.region rfl<|O.q 1 rfl<|O.op (.p rfl) (.nilCheck rfl)<|O.op (.p rfl) (.aF pK rfl)<|O.op (.p rfl) (.lo kK) ?_;refine O.q 1 rfl<|O.op (.p rfl) (.nw underlying75 (o3 underlying9) zeroValue24 rfl rfl ai) ?_;refine O.slot 15 (v' :=.tuple #[.slice none 0 0,.bool false]) rfl (by rw [e];rfl) ?_;refine O.q 3 rfl<|O.aL 17 rfl aG ?_;refine O.q 2 rfl<|O.nil<|S.seq<|S.seq<|S.region rfl<|O.q 1 rfl<|O.op (.p rfl) (.not rfl)<|O.nil<|S.bC rfl<|S.seq<|S.cg (A:=bp aJ d b s L) (bs:=x.ws aJ b s) aV (fun m h=>bp.fold x h) ?_;have hok:=AF hT.ok p;have tj:=KE hT.small p;have h12:=D_ hok;have hsum:fV (cF L p)=bA L p:=E5 L p;have W6:p.length≤510:=hp.1;refine S.region rfl<|O.q 3 rfl<|O.bD (.p rfl) rfl aa rfl rfl ai (hn hT wZ hp ha dg hal nU) ?_;rintro _ _ ⟨q1,d1,q2,d2,cH,d3,rfl,rfl⟩
  try simp only [an,aq,au]
  refine O.cU (.p rfl) rfl aa rfl rfl (bs:=[av ag.u8 5 (.slice q1 (cF L p).2.1.length d1) (cF L p).2.1,av ag.u8 5 (.slice q2 (cF L p).2.2.1.length d2) (cF L p).2.2.1,c_ (ef cS) 31 (.slice cH (cF L p).2.2.2.1.length d3) (cF L p).2.2.2.1]) aV (fun m hm hd=>vb (ag.rel.mono (R5 hm) (Fr.dA hd)) h12 tj (hT.hH.mono (Fr.cw _ _)) (hT.hK.mono (Fr.cw _ _))) ?_;rintro _ _ ⟨a24,kT,rfl,rfl⟩
  try simp only [an,aq,au]
  refine O.q 1 rfl<|O.nil ?_;rw [hsum,ig];refine S.open (bs:=bP.ws aJ b s) ai (fun m x=>bp.gy x) fun y=>?_;simp only [bP.ws,List.cons_append,List.nil_append];have fS:=hg;have fR:=hR
  try have sW:=hT
  try have nr:=ha
  refine S.iH (B:=obj b 77 [y.c8,y.c9,.int .i64 (s:Int),.map (some y.mid)]) ai fun go cR ⟨qI,hmo,jZ⟩ fC=>?_;replace hg:=Fr.aI hg cR;replace hR:=iB hR fC
  try replace hT:=hT.mono cR
  try replace ha:=ha.mono cR
  have dg:=(fK hmo).mono jZ;refine S.bB (L:=[0,1,2,3,4,6,5,7]) bx aa ?_;refine af.q 1 rfl<|.quiet (.p rfl) rfl (fun _=>.nilCheck rfl)<|.quiet (.p rfl) rfl (fun _=>.fieldAddr pK rfl)<|.quiet (.p rfl) rfl (fun _=>.loadAt kK rfl (dg.drop 3) rfl) ?_;refine af.q 2 rfl<|af.aC (.p rfl) aa rfl aa rfl rfl ((J3 ah)) ?_;rintro _ _ ⟨rfl,rfl⟩
  try simp only [an,aq,au]
  refine af.rV rfl aa underlying75 (o3 underlying9) rfl rfl rfl ai ?_;refine aK.nil<|S.seq<|S.back fC ?_;replace hg:=fS;replace hR:=fR
  try replace hT:=sW
  try replace ha:=nr
  clear fS fR;refine S.cg (A:=je aJ d b s L (.slice a24 64 kT) (bA L p)) (bs:=y.KX aJ b s 5 (.slice a24 64 kT) p (bA L p)) aV (fun m h=>je.put y hp rfl h) ?_;refine S.region rfl<|O.q 2 rfl<|O.nil ?_;exact S.rt results96 rfl hR ⟨a24,kT,rfl,rfl⟩
theorem AB (p q:List UInt8):str p++str q=str (p++q):=by apply ByteArray.ext;simp [str]
theorem Hw {d:Fr} {s:Nat} {L:List aH} {n:Nat} (hs:vL d s L n) {r:Fr} {b b3 b4 gK:Nat} {p:List UInt8} {va:Value} {a:List Nat} {z:UInt8} (hz:z=48∨z=49) (hT:gH r d s L) (wZ:p.length+(n+1)=510) (hp:kD p) (ha:aj ag.nat r va a) (dg:∀ i∈a,i<L.length) (hal:a.length≤10000000) (nU:gf L a=dG p L)
  (h3:At r ⟨b3,0,none⟩ [.pointer (some ⟨b,0,none⟩)]) (h4:At r ⟨b4,0,none⟩ [.string (str p)]) (h5:At r ⟨gK,0,none⟩ [va]) :
  ay prog 164 (#[]++#[.string (str [z])]++#[.pointer (some ⟨b3,0,none⟩),.pointer (some ⟨b4,0,none⟩),.pointer (some ⟨gK,0,none⟩)]) r [bp aJ d b s L] (aM fun v U=>∃ a1 c1,v=.slice a1 64 c1∧U=[bp aJ d b s L,av ag.u8 5 (.slice a1 64 c1) (bA L (p++[z]))]):=by
 obtain ⟨a1,c1,rfl⟩:=ha.shape;have ig:=qT hT.ok (p++[z]);have hlen:(p++[z]).length=p.length+1:=by simp
 have hp2:kD (p++[z]):=⟨by omega,fun c hc=>by
  rcases List.mem_append.1 hc with q|q
  ·exact hp.2 c q
  ·rw [List.mem_singleton.1 q];exact hz⟩
 have N0:gf L (fp L (p++[z]) a)=dG (p++[z]) L:=by rw [yp L _ a dg,nU,E7]
 have hs1:(str p).size=p.length:=tU p;have hs2:(str [z]).size=1:=tU [z];have NX:=E6 (p:=p++[z]) dg;have NR:=AH L (p++[z]) a;refine ay.of (n:=20) [.string (str [z]),.pointer (some ⟨b3,0,none⟩),.pointer (some ⟨b4,0,none⟩),.pointer (some ⟨gK,0,none⟩)] rfl func164 rfl rfl rfl fun g hg R hR=>?_;have hT:=hT.mono hg;have ha:=ha.mono hg;have h3:=h3.mono hg;have h4:=h4.mono hg;have h5:=h5.mono hg;refine S.seq<|S.region rfl<|O.q 1 rfl<|O.nil<|S.seq<|S.bB (L:=[0,1,2,3,4,5,6,7,8,9,10,11,12,13,14]) bx aa<|.quiet (.p rfl) rfl (fun _=>.loadAt nQ rfl h3 rfl) ?_;refine .quiet (.p rfl) rfl (fun _=>.loadAt bV rfl h4 rfl) ?_;refine af.q 1 rfl<|.quiet (.p rfl) rfl (fun _=>.yj rfl rfl ah)<|af.slot 9 (v' :=.string (str (p++[z]))) rfl (by rw [AB]) ?_;refine .quiet (.p rfl) rfl (fun _=>.loadAt nQ rfl h3 rfl) ?_;refine .quiet (.p rfl) rfl (fun _=>.nilCheck rfl)<|.quiet (.p rfl) rfl (fun _=>.fieldAddr mq rfl)<|.quiet (.p rfl) rfl (fun _=>.loadAt bV rfl h4 rfl) ?_;refine af.q 1 rfl<|.quiet (.p rfl) rfl (fun _=>.yj rfl rfl ah)<|af.slot 15 (v' :=.string (str (p++[z]))) rfl (by rw [AB]) ?_;refine .quiet (.p rfl) rfl (fun _=>.loadAt nh rfl h5 rfl) ?_
 refine af.cU (.p rfl) aa rfl aa rfl rfl (bs:=[bp aJ d b s L]) aV (fun m hm hd=>E8 (bp.jF hT.hd hd hm) (ha.mono (Fr.cw _ _)) dg ah hal) ?_;rintro _ _ ⟨a17,qa,rfl,rfl⟩
 try simp only [an,aq,au]
 refine af.eL (.p rfl) aa rfl aa rfl rfl (bs:=[bp aJ d b s L,av ag.nat 3 (.slice a17 (fp L (p++[z]) a).length qa) (fp L (p++[z]) a)]) aV (ay.tv (U:=[bp aJ d b s L]) (bs:=[av ag.nat 3 (.slice a17 (fp L (p++[z]) a).length qa) (fp L (p++[z]) a)]) (fun m hm hd=>hs (hT.mono (Fr.cw _ _)) ah hp2 ((tH hm).mono (Fr.dA hd)) NX ah N0)) ?_;rintro _ _ ⟨jR,jU,rfl,rfl⟩
 try simp only [an,aq,au]
 refine af.cU (.p rfl) aa rfl aa rfl rfl (bs:=[je aJ d b s L (.slice jR 64 jU) (bA L (p++[z]))]) aV (fun m hm hd=>er (je.jF hT.hd hd hm) ah) ?_;rintro _ _ ⟨yh,yu,rfl,rfl⟩
 try simp only [an,aq,au]
 refine af.q 1 rfl<|aK.nil ?_;rw [ig];refine S.cg (A:=bp aJ d b s L) (bs:=[je aJ d b s L (.slice jR 64 jU) (bA L (p++[z]))]) aV (fun m h=>je.toX h) ?_;exact S.rt results164 rfl hR ⟨yh,yu,rfl,rfl⟩
theorem Kw {r:Fr} {b s:Nat} {L:List aH} (h:kf r b s L) (hok:gI s L) (hs:L.length≤10000000∧∀ y∈L,y.2.1.length≤10000000) :
  ay prog 31 #[.pointer (some ⟨b,0,none⟩)] r [] (aM fun v U=>∃ a c,v=.slice a L.length c∧U=[c_ (ef cS) 31 (.slice a L.length c) L]):=by
 have h0:=h;have hbL:=hs.1;obtain ⟨cO,cQ,cB,cC,mid,h,hL,_⟩:=h;refine ay.of (n:=30) _ rfl func31 rfl rfl rfl fun g hg R hR=>?_;have h:=h.mono hg;have h0:=h0.mono hg;have hL:=hL.mono hg;refine S.tC (ef cS) 31 ?_;refine S.seq<|S.region rfl<|O.q 1 rfl<|O.nil<|S.seq<|S.seq<|S.region rfl<|O.q 1 rfl<|O.aC (.p rfl) rfl aa rfl rfl ((qS h0)) ?_;rintro _ _ ⟨rfl,rfl⟩
 try simp only [an,aq,au]
 refine O.sT 7 rfl aG ?_;refine O.op (.p rfl) (.not rfl)<|O.nil<|S.aP rfl<|S.skip<|S.seq<|S.region rfl<|O.q 1 rfl<|O.nil<|S.seq<|S.seq<|S.region rfl<|O.q 1 rfl<|O.op (.p rfl) (.nilCheck rfl)<|O.op (.p rfl) (.fieldAddr mq rfl)<|O.op (.p rfl) (.fieldAddr gN rfl)<|O.op (.p rfl) (.loadAt dO rfl h rfl) ?_;refine O.op (.p rfl) (.len rfl underlying25 rfl)<|O.q 1 rfl<|O.nil<|S.block<|S.jG (ι:=Nat) (dB:=Option Addr × Nat) (fun i u=>i≤L.length) (fun i u=>[(15,.int .i64 (i:Int)),(3,.slice u.1 (L.take i).length u.2)]) [(13,_),(14,_)] (fun i u=>[c_ (ef cS) 31 (.slice u.1 (L.take i).length u.2) (L.take i)]) (fun i u=>L.length - i) (0) ((none,0)) bq (.cons rfl (.cons rfl (.nil))) (.cons rfl (.cons rfl (.nil))) rfl fun i u hx ih=>?_;have bl:=cW (g:=g);refine S.seq<|S.region rfl<|O.op (.p rfl) (.lss rfl rfl)<|O.nil (S.seq ?_)
 first|refine S.ct rfl (fun e7=>?_) (fun e7=>?_)|refine S.cm rfl (fun e7=>?_) (fun e7=>?_)
 ·have hi:i<L.length:=by omega
  have qy:=hs.2 _ (List.getElem_mem hi);have iY:=(hok.1 _ (List.getElem_mem hi)).1;have eO:L.take i++[L[i]]=L.take (i+1):=(List.take_succ_eq_append_getElem hi).symm;have jl:(L.take i).length=i:=by simp;omega
  have xd:(L.take (i+1)).length=i+1:=by simp;omega
  refine S.skip<|S.seq<|S.block<|S.seq<|S.region rfl<|O.b_ (.p rfl) underlying25 dz rfl rfl (show _=(((i):Nat):Int) by omega) (by first|assumption|exact aj.mono hg aB|exact aj.left aB|exact aj.left (aj.mono hg aB)) (h:=fun Yg Wk Dd Du=>?_);obtain ⟨XU,X1,rfl,Xo,CJ⟩:=cq.sh Du;refine O.op (.p rfl) (.bI isAgg31 aa rfl Dd) ?_;refine O.aO (.p rfl) (.alloc (cs:=[.string ⟨#[]⟩,.slice none 0 0]) zeroValue31 rfl) ?_;rintro _ _ ⟨gK,rfl,rfl⟩;refine O.bw rfl (.cZ aa rfl rfl rfl rfl ai aT) ?_;refine O.nil<|S.cV ai fun g hs hm h5=>?_;replace hg:=Fr.aI hg hs;replace hR:=bt hR hm
  try replace h:=h.mono hs
  try replace h0:=h0.mono hs
  try replace hL:=hL.mono hs
  try replace Dd:=Dd.mono hs
  try replace CJ:=CJ.mono hs
  try replace Du:=Du.mono hs
  replace bl:=eD bl hm;clear hs hm;refine S.xz (G:=ef cS) (k' :=2) rfl ai fun ak dY=>?_;rw [← dY];refine S.bB (L:=[0,1,2,3,4,5,6,7,8,9]) bx aa ?_;refine af.q 1 rfl<|.quiet (.p rfl) rfl (fun _=>.fieldAddr eB rfl)<|.quiet (.p rfl) rfl (fun _=>.loadAt bV rfl h5 rfl) ?_;refine .quiet (.p rfl) rfl (fun _=>.fieldAddr gl rfl)<|.quiet (.p rfl) rfl (fun _=>.loadAt eN rfl (h5.drop 1) rfl) ?_;refine af.aC (.p rfl) aa rfl aa rfl rfl ((z1 CJ iY.2.1 ah)) ?_;rintro _ _ ⟨a24,kT,rfl,rfl⟩
  try simp only [an,aq,au]
  refine .quiet (.p rfl) rfl (fun _=>.build (cs:=[_,_]) underlying31 rfl rfl rfl rfl rfl)<|af.cn (T:=(ag.cells 2)) (ys:=[_]) (.p rfl) aa underlying25 kV zE rfl rfl ⟨⟨rfl,rfl,by first|(simp;done)|(intro v hv;simp [Value.cells] at hv;rcases hv with rfl|rfl<;>rfl)|(refine List.forall_mem_cons.2 ⟨rfl,?_⟩;repeat (first|exact (fun _ h=>absurd h List.not_mem_nil)|refine List.forall_mem_cons.2 ⟨rfl,?_⟩))⟩,trivial⟩ zE (fun a26 h_=>?_);refine af.gJ (.p rfl) aa (T:=(ag.cells 2)) underlying25 kV zE rfl rfl ai ai bL bL (fun a27 sE=>?_);refine af.q 1 rfl<|aK.nil<|S.inBlock<|S.cg (A:=(ef cS).own [.string (str L[i].1),.slice a24 L[i].2.1.length kT] (L[i].1,L[i].2.1,())) (bs:=[c_ (eH cS) 102 (.slice a24 L[i].2.1.length kT) L[i].2.1]) aV (fun m h=>ef.mk (by have:=iY.1.2;omega) h) ?_;refine S.xA (G:=ef cS) (k' :=2) rfl ai ai ai ?_;rw [show (L[i].1,L[i].2.1,())=L[i] from rfl,eO];refine S.slot 3 (v' :=.slice a27 (L.take (i+1)).length sE) rfl (by rw [dY,jl,xd];rfl) ?_;simp only [List.length_singleton];rw [show ak.length+1=(L.take (i+1)).length by omega];refine S.region rfl<|O.op (.p rfl) (.add rfl rfl (IntWalk.i64_in _ ah))<|O.q 1 rfl<|O.nil ?_;exact S.iR bl (S.pw (ih (i+1) ((a27,sE)) ah ah))
 ·clear ih
  have hi:i=L.length:=by omega
  subst hi;rw [List.take_of_length_le ah];refine S.exit rfl<|S.seq<|S.region rfl<|O.q 2 rfl<|O.nil ?_;exact S.rt results31 rfl hR ⟨u.1,u.2,rfl,rfl⟩
theorem Gn {r:Fr} {va:Value} {xs:List (List UInt8)} (ha:aj ag.str r va xs) (hl:xs.length≤1000000000000) :
  ay prog 106 #[va] r [] (aM fun v U=>∃ a c,v=.slice a xs.length c∧U=[av ag.str 9 v xs]):=by
 refine ay.of (n:=8) _ rfl func106 rfl rfl rfl fun g hg R hR=>?_;have ha:=ha.mono hg;obtain ⟨a1,c1,rfl⟩:=ha.shape
 cases a1 with
 |none =>
  refine S.seq<|S.region rfl<|O.q 1 rfl<|O.nil<|S.seq<|S.seq<|S.region rfl<|O.q 1 rfl<|O.op (.p rfl) (.nc underlying53 rfl rfl)<|O.nil<|S.bC rfl<|S.seq<|S.region rfl<|O.q 1 rfl<|O.nil ?_;obtain ⟨rfl,_,rfl⟩:=aj.xF zE ha;refine S.gd (T:=ag.str) (e:=9) ?_;refine S.ret results106 rfl fun w hw=>hR _ _ w ?_ hw;exact ⟨none,0,rfl,rfl⟩
 |some a1 =>
  refine S.seq<|S.region rfl<|O.q 1 rfl<|O.nil<|S.seq<|S.seq<|S.region rfl<|O.q 1 rfl<|O.op (.p rfl) (.nc underlying53 rfl rfl)<|O.nil<|S.aP rfl<|S.skip<|S.seq<|S.region rfl<|O.aO (.p rfl) (.cn (T:=ag.str) (ys:=[]) underlying53 iG zE rfl rfl trivial zE) ?_;rintro _ _ ⟨a5,dM,rfl,rfl⟩;refine O.q 1 rfl<|O.aO (.p rfl) (.pH (T:=ag.str) SU underlying53 iG zE rfl rfl ai (by first|assumption|exact aj.mono hg aB|exact aj.left aB|exact aj.left (aj.mono hg aB)) bL bL) ?_;rintro _ _ ⟨a7,ia,rfl,rfl⟩;refine O.q 1 rfl<|O.nil<|S.ret results106 rfl fun w hw=>hR _ _ w ?_ hw;exact ⟨a7,ia,by simp,by simp⟩
theorem Jh {d:Fr} {s:Nat} {L:List aH} {n:Nat} (hs:∀ k,n=k+1→vL d s L k):A2 d s L n:=by
 intro r b p va a hT wZ hp ha dg hal nU
 obtain ⟨a1,c1,rfl⟩:=ha.shape;have hlen:(dG p L).length=a.length:=by rw [← nU];exact yo dg
 refine ay.of (n:=73) _ rfl func99 rfl rfl rfl fun g hg R hR=>?_;have hT:=hT.mono hg;have ha:=ha.mono hg;have hps:(str p).size=p.length:=tU p;refine S.seq<|S.region rfl<|O.aO (.p rfl) (.box (cs:=[_]) rfl rfl) ?_;rintro _ _ ⟨b3,rfl,rfl⟩;refine O.aO (.p rfl) (.box (cs:=[_]) rfl rfl) ?_;rintro _ _ ⟨b4,rfl,rfl⟩;refine O.aO (.p rfl) (.box (cs:=[_]) rfl rfl) ?_;rintro _ _ ⟨gK,rfl,rfl⟩;refine O.aO (.p rfl) (.alloc (cs:=[.int .u8 0,.slice none 0 0,.slice none 0 0,.slice none 0 0]) zeroValue27 rfl) ?_;rintro _ _ ⟨gh,rfl,rfl⟩;refine O.nil<|S.seq<|S.eC (A:=obj b3 42 [.pointer (some ⟨b,0,none⟩)]) ai fun g hs hm ⟨_,x',s'⟩=>?_;have h3:=(fun s x=>(fK x).mono s) s' x';clear x' s';replace hg:=Fr.aI hg hs;replace hR:=bt hR hm
 try replace hT:=hT.mono hs
 try replace ha:=ha.mono hs
 clear hs hm;refine S.eC (A:=obj b4 9 [.string (str p)]) ai fun g hs hm ⟨_,x',s'⟩=>?_;have h4:=(fun s x=>(fK x).mono s) s' x';clear x' s';replace hg:=Fr.aI hg hs;replace hR:=bt hR hm
 try replace hT:=hT.mono hs
 try replace ha:=ha.mono hs
 try replace h3:=h3.mono hs
 clear hs hm;refine S.eC (A:=obj gK 104 [.slice a1 a.length c1]) ai fun g hs hm ⟨_,x',s'⟩=>?_;have h5:=(fun s x=>(fK x).mono s) s' x';clear x' s';replace hg:=Fr.aI hg hs;replace hR:=bt hR hm
 try replace hT:=hT.mono hs
 try replace ha:=ha.mono hs
 try replace h3:=h3.mono hs
 try replace h4:=h4.mono hs
 clear hs hm;refine S.region rfl<|O.aO (.p rfl) (.IZ (T:=ag.cells 2) (c:=2) underlying25 kV rfl rfl rfl rfl zE zE) ?_;rintro _ _ ⟨kS,nL,rfl,rfl⟩;refine O.q 1 rfl<|O.nil<|S.seq<|S.seq<|S.cg (A:=c_ (ef cS) 31 (.slice kS 0 nL) []) (bs:=[av (ag.cells 2) 31 (.slice kS 0 nL) []]) aV (fun m h=>RA rfl h) ?_
 by_cases h2:2≤a.length∧p.length<510
 ·obtain ⟨k,hk⟩:∃ k,n=k+1:=⟨n - 1,by omega⟩
  have hsk:vL d s L k:=hs k hk;have hx:=E4 (L:=L) (p:=p) ah h2.2;have Hf:=qT hT.ok (p++[48]);have Hg:=qT hT.ok (p++[49]);rw [hx] at hR;refine S.region rfl<|O.op (.p rfl) (.loadAt nh rfl h5 rfl) ?_;refine O.op (.p rfl) (.len rfl underlying104 rfl)<|O.op (.p rfl) (.lss rfl rfl)<|O.aL 14 rfl (by exact decide_eq_false ah) ?_;refine O.q 1 rfl<|O.op (.g rfl rfl) (.loadAt bV rfl h4 rfl) ?_;refine O.op (.g rfl rfl) (.c6 rfl underlying9 rfl)<|O.op (.g rfl rfl) (.eql rfl rfl)<|O.aL 18 rfl (by exact decide_eq_false ah) ?_;refine O.q 1 rfl<|O.nil<|S.aP rfl<|S.skip<|S.seq<|S.block<|S.seq<|S.region rfl<|O.op (.p rfl) (.loadAt nh rfl h5 rfl) ?_;refine O.op (.p rfl) (.len rfl underlying104 rfl)<|O.op (.p rfl) (.eql rfl rfl)<|O.aL 53 rfl (by exact decide_eq_false ah) ?_;refine O.q 1 rfl<|O.nil<|S.aP rfl<|S.seq<|S.region rfl<|O.op (.p rfl) (.loadAt nh rfl h5 rfl) ?_;refine O.op (.p rfl) (.len rfl underlying104 rfl)<|O.op (.p rfl) (.eql rfl rfl)<|O.aL 58 rfl (by exact decide_eq_false ah) ?_;refine O.q 1 rfl<|O.nil<|S.aP rfl<|S.seq<|S.region rfl<|O.op (.p rfl) (.loadAt bV rfl h4 rfl) ?_;refine O.op (.p rfl) (.c6 rfl underlying9 rfl)<|O.op (.p rfl) (.eql rfl rfl)<|O.aL 64 rfl (by exact decide_eq_false ah) ?_
  refine O.q 1 rfl<|O.nil<|S.aP rfl<|S.skip<|S.inBlock<|S.seq<|S.region rfl<|O.op (.p rfl) (.iS rfl rfl)<|O.q 1 rfl<|O.nil<|S.seq<|S.region rfl<|O.q 1 rfl<|O.bD (.p rfl) rfl aa rfl rfl ai (Hw hsk (.inl rfl) hT ah hp ha dg hal nU h3 h4 h5) ?_;rintro _ _ ⟨FJ,Gg,rfl,rfl⟩
  try simp only [an,aq,au]
  refine O.q 1 rfl<|O.bD (.p rfl) rfl aa rfl rfl ai (Hw hsk (.inr rfl) hT ah hp ha dg hal nU h3 h4 h5) ?_;rintro _ _ ⟨La,LZ,rfl,rfl⟩
  try simp only [an,aq,au]
  refine O.op (.p rfl) (.build (cs:=[_,_,_,_]) underlying27 rfl rfl rfl rfl rfl)<|O.bw rfl (.cZ aa rfl rfl rfl rfl ai aT) ?_;refine O.nil<|S.tC (ef cS) 31 ?_;refine S.vn results99 isAgg27 aa rfl ai fun w hw=>Holds.end_ hR hw ?_;exact pk ⟨FJ,Gg,La,LZ,none,0,by rw [Hf,Hg];rfl,by rw [Hf,Hg]⟩
 ·have hall:a.length<2∨p.length=510:=by omega
  obtain ⟨lv,hlv⟩:∃ lv,lv=gf L a:=⟨_,rfl⟩;have NR:lv.length=a.length:=by rw [hlv];exact yo dg
  have s5:∀ i (h:i<a.length) (h' :i<lv.length),lv[i]=L[a[i]]'(dg _ (List.getElem_mem h)):=by subst hlv;exact fun i h h' =>FX dg i h
  have nZ:dG p L=lv:=by rw [hlv,nU]
  refine S.yH (fun (v:Option Addr × Nat)=>True) (fun (v:Option Addr × Nat)=>[(7,.slice v.1 lv.length v.2)]) [(3,_),(4,_),(5,_),(6,_)] (fun (v:Option Addr × Nat)=>[c_ (ef cS) 31 (.slice v.1 lv.length v.2) lv,obj gh 27 [.int .u8 0,.slice none 0 0,.slice none 0 0,.slice none 0 0],bp aJ d b s L]) (.cons rfl (.cons rfl (.cons rfl (.cons rfl (.nil))))) (fun key=>?_) (fun v hx=>?_)
  ·have bl:=cW (g:=g)
   by_cases q2:a.length<2
   ·
    refine S.region rfl<|O.op (.p rfl) (.loadAt nh rfl h5 rfl) ?_;refine O.op (.p rfl) (.len rfl underlying104 rfl)<|O.op (.p rfl) (.lss rfl rfl)<|O.sT 14 rfl (by exact decide_eq_true ah) ?_;refine O.q 5 rfl<|O.nil<|S.bC rfl<|S.seq<|S.region rfl<|O.op (.p rfl) (.loadAt nh rfl h5 rfl) ?_;refine O.op (.p rfl) (.len rfl underlying104 rfl)<|O.q 1 rfl<|O.nil<|S.block<|S.jG (ι:=Nat) (dB:=Option Addr × Nat) (fun i u=>i≤a.length) (fun i u=>[(22,.int .i64 (i:Int)),(7,.slice u.1 (lv.take i).length u.2)]) [(3,_),(4,_),(5,_),(6,_),(20,_),(21,_)] (fun i u=>[c_ (ef cS) 31 (.slice u.1 (lv.take i).length u.2) (lv.take i),obj gh 27 [.int .u8 0,.slice none 0 0,.slice none 0 0,.slice none 0 0],bp aJ d b s L]) (fun i u=>a.length - i) (0) ((kS,nL)) bq (.cons rfl (.cons rfl (.nil))) (.cons rfl (.cons rfl (.cons rfl (.cons rfl (.cons rfl (.cons rfl (.nil))))))) rfl fun i u hx ih=>?_;have hm2:=cW (g:=g);refine S.seq<|S.region rfl<|O.op (.p rfl) (.lss rfl rfl)<|O.nil (S.seq ?_)
    first|refine S.ct rfl (fun h23=>?_) (fun h23=>?_)|refine S.cm rfl (fun h23=>?_) (fun h23=>?_)
    ·have hi:i<a.length:=by omega
     have kq:i<lv.length:=by omega
     have iN:=dg _ (List.getElem_mem hi);have hbL:L.length≤10000000:=hT.small.1;have qy:=hT.small.2 _ (List.getElem_mem iN);have iY:=(hT.ok.1 _ (List.getElem_mem iN)).1;have CZ:cE ((a[i]:Nat):Int):=⟨by omega,by omega⟩;have CY:=s5 i hi kq;have eO:lv.take i++[lv[i]]=lv.take (i+1):=(List.take_succ_eq_append_getElem kq).symm;have jl:(lv.take i).length=i:=by simp;omega
     have xd:(lv.take (i+1)).length=i+1:=by simp;omega
     have fS:=hg;have fR:=hR
     try have sW:=hT
     try have nr:=ha
     try have Cq:=h3
     try have Cs:=h4
     try have Cu:=h5
     refine S.iH (B:=bp aJ d b s L) ai fun go cR ⟨qI,hmo,jZ⟩ fC=>?_;replace hg:=Fr.aI hg cR;replace hR:=iB hR fC
     try replace hT:=hT.mono cR
     try replace ha:=ha.mono cR
     try replace h3:=h3.mono cR
     try replace h4:=h4.mono cR
     try replace h5:=h5.mono cR
     have hA:=bp.a hT.hd jZ hmo;obtain ⟨cO,cQ,cB,cC,mid,wG,wv,Nx⟩:=hA;refine S.xz (G:=ef cS) (k' :=2) rfl ai fun ak dY=>?_;refine S.skip<|S.seq<|S.block<|S.seq<|S.region rfl<|O.b_ (.p rfl) underlying104 tQ rfl rfl rfl (by first|assumption|exact aj.mono hg aB|exact aj.left aB|exact aj.left (aj.mono hg aB)) (h:=fun xO we lP oT=>?_);obtain ⟨rfl,PF⟩:=oT;refine O.op (.p rfl) (.loadAt cv rfl lP rfl) ?_;refine O.slot 25 (v' :=.int .i64 ((a[i]:Nat):Int)) rfl aG ?_;refine O.q 1 rfl<|O.nil ?_;rw [← dY];refine S.bB (L:=[0,1,2,3,4,5,6,7,8,9,10,11,12,13,14,15,16,17,18,19,20,21,22,23]) bx aa ?_;refine af.q 1 rfl<|.quiet (.p rfl) rfl (fun _=>.loadAt nQ rfl h3 rfl) ?_;refine .quiet (.p rfl) rfl (fun _=>.nilCheck rfl)<|.quiet (.p rfl) rfl (fun _=>.fieldAddr mq rfl)<|.quiet (.p rfl) rfl (fun _=>.fieldAddr gN rfl)<|.quiet (.p rfl) rfl (fun _=>.loadAt dO rfl wG rfl) ?_;refine af.q 1 rfl<|af.b_ (.p rfl) underlying25 dz rfl rfl (show _=(((a[i]):Nat):Int) by omega) (wv) (h:=fun En BT tc tg=>?_);obtain ⟨l1,m1,rfl,l2,l3⟩:=cq.sh tg;refine .quiet (.p rfl) rfl (fun _=>.fieldAddr eB rfl)<|.quiet (.p rfl) rfl (fun _=>.loadAt bV rfl tc rfl) ?_;refine .quiet (.p rfl) rfl (fun _=>.loadAt nQ rfl h3 rfl) ?_
     refine .quiet (.p rfl) rfl (fun _=>.nilCheck rfl)<|.quiet (.p rfl) rfl (fun _=>.fieldAddr mq rfl)<|.quiet (.p rfl) rfl (fun _=>.fieldAddr gN rfl)<|.quiet (.p rfl) rfl (fun _=>.loadAt dO rfl wG rfl) ?_;refine af.q 1 rfl<|af.b_ (.p rfl) underlying25 dz rfl rfl (show _=(((a[i]):Nat):Int) by omega) (wv) (h:=fun SF MA Dh Dy=>?_);obtain ⟨l4,m4,rfl,IC,zF⟩:=cq.sh Dy;refine .quiet (.p rfl) rfl (fun _=>.fieldAddr gl rfl)<|.quiet (.p rfl) rfl (fun _=>.loadAt eN rfl (Dh.drop 1) rfl) ?_;refine af.aC (.p rfl) aa rfl aa rfl rfl ((z1 zF iY.2.1 ah)) ?_;rintro _ _ ⟨a45,vW,rfl,rfl⟩
     try simp only [an,aq,au]
     refine .quiet (.p rfl) rfl (fun _=>.build (cs:=[_,_]) underlying31 rfl rfl rfl rfl rfl)<|af.cn (T:=(ag.cells 2)) (ys:=[_]) (.p rfl) aa underlying25 kV zE rfl rfl ⟨⟨rfl,rfl,by first|(simp;done)|(intro v hv;simp [Value.cells] at hv;rcases hv with rfl|rfl<;>rfl)|(refine List.forall_mem_cons.2 ⟨rfl,?_⟩;repeat (first|exact (fun _ h=>absurd h List.not_mem_nil)|refine List.forall_mem_cons.2 ⟨rfl,?_⟩))⟩,trivial⟩ zE (fun vP vX=>?_);refine af.gJ (.p rfl) aa (T:=(ag.cells 2)) underlying25 kV zE rfl rfl ai ai bL bL (fun q6 ri=>?_);refine af.q 1 rfl<|aK.nil<|S.inBlock<|S.back fC ?_;replace hg:=fS;replace hR:=fR
     try replace hT:=sW
     try replace ha:=nr
     try replace h3:=Cq
     try replace h4:=Cs
     try replace h5:=Cu
     clear fS fR;rw [CY] at eO;refine S.cg (A:=(ef cS).own [.string (str (L[a[i]]'iN).1),.slice a45 (L[a[i]]'iN).2.1.length vW] ((L[a[i]]'iN).1,(L[a[i]]'iN).2.1,())) (bs:=[c_ (eH cS) 102 (.slice a45 (L[a[i]]'iN).2.1.length vW) (L[a[i]]'iN).2.1]) aV (fun m h=>ef.mk (by have:=iY.1.2;omega) h) ?_;refine S.xA (G:=ef cS) (k' :=2) rfl ai ai ai ?_;rw [show ((L[a[i]]'iN).1,(L[a[i]]'iN).2.1,())=L[a[i]]'iN from rfl,eO];refine S.slot 7 (v' :=.slice q6 (lv.take (i+1)).length ri) rfl (by rw [dY,jl,xd];rfl) ?_;simp only [List.length_singleton];rw [show ak.length+1=(lv.take (i+1)).length by omega];refine S.region rfl<|O.op (.p rfl) (.add rfl rfl (IntWalk.i64_in _ ah))<|O.q 1 rfl<|O.nil ?_;exact S.pw (ih (i+1) ((q6,ri)) ah ah)
    ·clear ih
     have hi:i=a.length:=by omega
     subst hi;rw [List.take_of_length_le ah];refine S.exit rfl<|S.pk ?_ (S.weaken ?_ (key (u) (by trivial)))
     ·repeat (first|exact aW|exact aY|(apply aX;focus (repeat (first|exact aU|apply zt)))|apply aZ)
     repeat (first|exact Sub.nil|refine Sub.cons rfl ?_)
   ·
    refine S.region rfl<|O.op (.p rfl) (.loadAt nh rfl h5 rfl) ?_;refine O.op (.p rfl) (.len rfl underlying104 rfl)<|O.op (.p rfl) (.lss rfl rfl)<|O.aL 14 rfl (by exact decide_eq_false ah) ?_;refine O.q 1 rfl<|O.op (.g rfl rfl) (.loadAt bV rfl h4 rfl) ?_;refine O.op (.g rfl rfl) (.c6 rfl underlying9 rfl)<|O.op (.g rfl rfl) (.eql rfl rfl)<|O.sT 18 rfl (by exact decide_eq_true ah) ?_;refine O.q 1 rfl<|O.nil<|S.bC rfl<|S.seq<|S.region rfl<|O.op (.p rfl) (.loadAt nh rfl h5 rfl) ?_;refine O.op (.p rfl) (.len rfl underlying104 rfl)<|O.q 1 rfl<|O.nil<|S.block<|S.jG (ι:=Nat) (dB:=Option Addr × Nat) (fun i u=>i≤a.length) (fun i u=>[(22,.int .i64 (i:Int)),(7,.slice u.1 (lv.take i).length u.2)]) [(3,_),(4,_),(5,_),(6,_),(20,_),(21,_)] (fun i u=>[c_ (ef cS) 31 (.slice u.1 (lv.take i).length u.2) (lv.take i),obj gh 27 [.int .u8 0,.slice none 0 0,.slice none 0 0,.slice none 0 0],bp aJ d b s L]) (fun i u=>a.length - i) (0) ((kS,nL)) bq (.cons rfl (.cons rfl (.nil))) (.cons rfl (.cons rfl (.cons rfl (.cons rfl (.cons rfl (.cons rfl (.nil))))))) rfl fun i u hx ih=>?_;have hm2:=cW (g:=g);refine S.seq<|S.region rfl<|O.op (.p rfl) (.lss rfl rfl)<|O.nil (S.seq ?_)
    first|refine S.ct rfl (fun h23=>?_) (fun h23=>?_)|refine S.cm rfl (fun h23=>?_) (fun h23=>?_)
    ·have hi:i<a.length:=by omega
     have kq:i<lv.length:=by omega
     have iN:=dg _ (List.getElem_mem hi);have hbL:L.length≤10000000:=hT.small.1;have qy:=hT.small.2 _ (List.getElem_mem iN);have iY:=(hT.ok.1 _ (List.getElem_mem iN)).1;have CZ:cE ((a[i]:Nat):Int):=⟨by omega,by omega⟩;have CY:=s5 i hi kq;have eO:lv.take i++[lv[i]]=lv.take (i+1):=(List.take_succ_eq_append_getElem kq).symm;have jl:(lv.take i).length=i:=by simp;omega
     have xd:(lv.take (i+1)).length=i+1:=by simp;omega
     have fS:=hg;have fR:=hR
     try have sW:=hT
     try have nr:=ha
     try have Cq:=h3
     try have Cs:=h4
     try have Cu:=h5
     refine S.iH (B:=bp aJ d b s L) ai fun go cR ⟨qI,hmo,jZ⟩ fC=>?_;replace hg:=Fr.aI hg cR;replace hR:=iB hR fC
     try replace hT:=hT.mono cR
     try replace ha:=ha.mono cR
     try replace h3:=h3.mono cR
     try replace h4:=h4.mono cR
     try replace h5:=h5.mono cR
     have hA:=bp.a hT.hd jZ hmo;obtain ⟨cO,cQ,cB,cC,mid,wG,wv,Nx⟩:=hA;refine S.xz (G:=ef cS) (k' :=2) rfl ai fun ak dY=>?_;refine S.skip<|S.seq<|S.block<|S.seq<|S.region rfl<|O.b_ (.p rfl) underlying104 tQ rfl rfl rfl (by first|assumption|exact aj.mono hg aB|exact aj.left aB|exact aj.left (aj.mono hg aB)) (h:=fun xO we lP oT=>?_);obtain ⟨rfl,PF⟩:=oT;refine O.op (.p rfl) (.loadAt cv rfl lP rfl) ?_;refine O.slot 25 (v' :=.int .i64 ((a[i]:Nat):Int)) rfl aG ?_;refine O.q 1 rfl<|O.nil ?_;rw [← dY];refine S.bB (L:=[0,1,2,3,4,5,6,7,8,9,10,11,12,13,14,15,16,17,18,19,20,21,22,23]) bx aa ?_;refine af.q 1 rfl<|.quiet (.p rfl) rfl (fun _=>.loadAt nQ rfl h3 rfl) ?_;refine .quiet (.p rfl) rfl (fun _=>.nilCheck rfl)<|.quiet (.p rfl) rfl (fun _=>.fieldAddr mq rfl)<|.quiet (.p rfl) rfl (fun _=>.fieldAddr gN rfl)<|.quiet (.p rfl) rfl (fun _=>.loadAt dO rfl wG rfl) ?_;refine af.q 1 rfl<|af.b_ (.p rfl) underlying25 dz rfl rfl (show _=(((a[i]):Nat):Int) by omega) (wv) (h:=fun En BT tc tg=>?_);obtain ⟨l1,m1,rfl,l2,l3⟩:=cq.sh tg;refine .quiet (.p rfl) rfl (fun _=>.fieldAddr eB rfl)<|.quiet (.p rfl) rfl (fun _=>.loadAt bV rfl tc rfl) ?_;refine .quiet (.p rfl) rfl (fun _=>.loadAt nQ rfl h3 rfl) ?_
     refine .quiet (.p rfl) rfl (fun _=>.nilCheck rfl)<|.quiet (.p rfl) rfl (fun _=>.fieldAddr mq rfl)<|.quiet (.p rfl) rfl (fun _=>.fieldAddr gN rfl)<|.quiet (.p rfl) rfl (fun _=>.loadAt dO rfl wG rfl) ?_;refine af.q 1 rfl<|af.b_ (.p rfl) underlying25 dz rfl rfl (show _=(((a[i]):Nat):Int) by omega) (wv) (h:=fun SF MA Dh Dy=>?_);obtain ⟨l4,m4,rfl,IC,zF⟩:=cq.sh Dy;refine .quiet (.p rfl) rfl (fun _=>.fieldAddr gl rfl)<|.quiet (.p rfl) rfl (fun _=>.loadAt eN rfl (Dh.drop 1) rfl) ?_;refine af.aC (.p rfl) aa rfl aa rfl rfl ((z1 zF iY.2.1 ah)) ?_;rintro _ _ ⟨a45,vW,rfl,rfl⟩
     try simp only [an,aq,au]
     refine .quiet (.p rfl) rfl (fun _=>.build (cs:=[_,_]) underlying31 rfl rfl rfl rfl rfl)<|af.cn (T:=(ag.cells 2)) (ys:=[_]) (.p rfl) aa underlying25 kV zE rfl rfl ⟨⟨rfl,rfl,by first|(simp;done)|(intro v hv;simp [Value.cells] at hv;rcases hv with rfl|rfl<;>rfl)|(refine List.forall_mem_cons.2 ⟨rfl,?_⟩;repeat (first|exact (fun _ h=>absurd h List.not_mem_nil)|refine List.forall_mem_cons.2 ⟨rfl,?_⟩))⟩,trivial⟩ zE (fun vP vX=>?_);refine af.gJ (.p rfl) aa (T:=(ag.cells 2)) underlying25 kV zE rfl rfl ai ai bL bL (fun q6 ri=>?_);refine af.q 1 rfl<|aK.nil<|S.inBlock<|S.back fC ?_;replace hg:=fS;replace hR:=fR
     try replace hT:=sW
     try replace ha:=nr
     try replace h3:=Cq
     try replace h4:=Cs
     try replace h5:=Cu
     clear fS fR;rw [CY] at eO;refine S.cg (A:=(ef cS).own [.string (str (L[a[i]]'iN).1),.slice a45 (L[a[i]]'iN).2.1.length vW] ((L[a[i]]'iN).1,(L[a[i]]'iN).2.1,())) (bs:=[c_ (eH cS) 102 (.slice a45 (L[a[i]]'iN).2.1.length vW) (L[a[i]]'iN).2.1]) aV (fun m h=>ef.mk (by have:=iY.1.2;omega) h) ?_;refine S.xA (G:=ef cS) (k' :=2) rfl ai ai ai ?_;rw [show ((L[a[i]]'iN).1,(L[a[i]]'iN).2.1,())=L[a[i]]'iN from rfl,eO];refine S.slot 7 (v' :=.slice q6 (lv.take (i+1)).length ri) rfl (by rw [dY,jl,xd];rfl) ?_;simp only [List.length_singleton];rw [show ak.length+1=(lv.take (i+1)).length by omega];refine S.region rfl<|O.op (.p rfl) (.add rfl rfl (IntWalk.i64_in _ ah))<|O.q 1 rfl<|O.nil ?_;exact S.pw (ih (i+1) ((q6,ri)) ah ah)
    ·clear ih
     have hi:i=a.length:=by omega
     subst hi;rw [List.take_of_length_le ah];refine S.exit rfl<|S.pk ?_ (S.weaken ?_ (key (u) (by trivial)))
     ·repeat (first|exact aW|exact aY|(apply aX;focus (repeat (first|exact aU|apply zt)))|apply aZ)
     repeat (first|exact Sub.nil|refine Sub.cons rfl ?_)
  ·
   by_cases q0:a.length=0
   ·have hx:=E2 (L:=L) (p:=p) (List.eq_nil_of_length_eq_zero ah)
    have hl0:lv=[]:=List.eq_nil_of_length_eq_zero ah;rw [hx] at hR;refine S.seq<|S.block<|S.seq<|S.region rfl<|O.op (.p rfl) (.loadAt nh rfl h5 rfl) ?_;refine O.op (.p rfl) (.len rfl underlying104 rfl)<|O.op (.p rfl) (.eql rfl rfl)<|O.sT 53 rfl (by exact decide_eq_true ah) ?_;refine O.q 1 rfl<|O.nil<|S.bC rfl<|S.seq<|S.region rfl<|O.op (.p rfl) (.build (cs:=[_,_,_,_]) underlying27 rfl rfl rfl rfl rfl)<|O.bw rfl (.cZ aa rfl rfl rfl rfl ai aT) ?_;refine O.nil<|S.tC (ef cS) 31 ?_;refine S.gd (T:=ag.u8) (e:=5) ?_;refine S.gd (T:=ag.u8) (e:=5) ?_;refine S.vn results99 isAgg27 aa rfl ai fun w hw=>Holds.end_ hR hw ?_;exact pk ⟨none,0,none,0,none,0,rfl,rfl⟩
   ·by_cases q1:a.length=1
    ·obtain ⟨x,hx1⟩:=List.length_eq_one_iff.1 (show lv.length=1 by omega)
     have hx:=E3 (L:=L) (p:=p) (x:=x) (by rw [nZ,hx1]);subst hx1;rw [hx] at hR;refine S.seq<|S.block<|S.seq<|S.region rfl<|O.op (.p rfl) (.loadAt nh rfl h5 rfl) ?_;refine O.op (.p rfl) (.len rfl underlying104 rfl)<|O.op (.p rfl) (.eql rfl rfl)<|O.aL 53 rfl (by exact decide_eq_false ah) ?_;refine O.q 1 rfl<|O.nil<|S.aP rfl<|S.seq<|S.region rfl<|O.op (.p rfl) (.loadAt nh rfl h5 rfl) ?_;refine O.op (.p rfl) (.len rfl underlying104 rfl)<|O.op (.p rfl) (.eql rfl rfl)<|O.sT 58 rfl (by exact decide_eq_true ah) ?_;refine O.q 1 rfl<|O.nil<|S.bC rfl<|S.seq<|S.region rfl<|O.q 1 rfl<|O.op (.p rfl) (.build (cs:=[_,_,_,_]) underlying27 rfl rfl rfl rfl rfl)<|O.bw rfl (.cZ aa rfl rfl rfl rfl ai aT) ?_;refine O.nil<|S.gd (T:=ag.u8) (e:=5) ?_;refine S.gd (T:=ag.u8) (e:=5) ?_;refine S.vn results99 isAgg27 aa rfl ai fun w hw=>Holds.end_ hR hw ?_;exact pk ⟨none,0,none,0,v.1,v.2,rfl,rfl⟩
    ·have hx:=KD (L:=L) (p:=p) ah ah
     rw [nZ] at hx;rw [hx] at hR;refine S.seq<|S.block<|S.seq<|S.region rfl<|O.op (.p rfl) (.loadAt nh rfl h5 rfl) ?_;refine O.op (.p rfl) (.len rfl underlying104 rfl)<|O.op (.p rfl) (.eql rfl rfl)<|O.aL 53 rfl (by exact decide_eq_false ah) ?_;refine O.q 1 rfl<|O.nil<|S.aP rfl<|S.seq<|S.region rfl<|O.op (.p rfl) (.loadAt nh rfl h5 rfl) ?_;refine O.op (.p rfl) (.len rfl underlying104 rfl)<|O.op (.p rfl) (.eql rfl rfl)<|O.aL 58 rfl (by exact decide_eq_false ah) ?_;refine O.q 1 rfl<|O.nil<|S.aP rfl<|S.seq<|S.region rfl<|O.op (.p rfl) (.loadAt bV rfl h4 rfl) ?_;refine O.op (.p rfl) (.c6 rfl underlying9 rfl)<|O.op (.p rfl) (.eql rfl rfl)<|O.sT 64 rfl (by exact decide_eq_true ah) ?_;refine O.q 1 rfl<|O.nil<|S.bC rfl<|S.seq<|S.region rfl<|O.q 1 rfl<|O.op (.p rfl) (.build (cs:=[_,_,_,_]) underlying27 rfl rfl rfl rfl rfl)<|O.bw rfl (.cZ aa rfl rfl rfl rfl ai aT) ?_;refine O.nil<|S.gd (T:=ag.u8) (e:=5) ?_;refine S.gd (T:=ag.u8) (e:=5) ?_;refine S.vn results99 isAgg27 aa rfl ai fun w hw=>Holds.end_ hR hw ?_;exact pk ⟨none,0,none,0,v.1,v.2,rfl,rfl⟩
end Go.Proofs.YtojafegjlahajaaGreatDoor
