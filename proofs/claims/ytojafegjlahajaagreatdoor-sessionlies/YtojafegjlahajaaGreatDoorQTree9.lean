/- Texts of this proof. -/
import Derived.Test.YtojafegjlahajaaGreatDoorQSpJoin3
import Derived.Test.YtojafegjlahajaaGreatDoorQTree2
open Go Go.Sp Go.Proofs.Tryz
set_option maxRecDepth 100000
set_option maxHeartbeats 1000000
attribute [local irreducible] obj Own av
namespace Go.Proofs.YtojafegjlahajaaGreatDoor
def mP (l:List aP):Option (List aP):=if gP l=true then some (jo l) else none
theorem LP {h:Fr}:∀ {ak:List (List Value)} {xs:List aP},bV (bK.rel h) ak xs→∃ ps:List ir,ps.map (·.1)=ak∧ps.map (·.2)=xs∧∀ q∈ps,bK.rel h q.1 q.2
 |[],[],_=>⟨[],rfl,rfl,fun _ h=>by cases h⟩
 |c::ak,x::xs,⟨h1,h2⟩=>by
  obtain ⟨ps,e1,e2,bY⟩:=LP h2;exact ⟨(c,x)::ps,by rw [← e1];rfl,by rw [← e2];rfl,fun q hq=>by
   rcases List.mem_cons.1 hq with rfl|hq
   ·exact h1
   ·exact bY q hq⟩
theorem U9 {x:aP} (h:ee x=true):mz (b9 x)=some x:=Ks.2 ⟨h,rfl⟩
theorem Wv {r:Fr} {b:Nat} {xs:List aP} (hrow:ru r b xs) (ho:∀ x∈xs,ee x=true) (hl:xs.length≤100000000000) :
  ay prog 242 #[.pointer (some ⟨b,0,none⟩)] r [] (aL fun v U=>∃ a c,v=.slice a xs.length c∧U=[cH (ef cD) 102 (.slice a xs.length c) xs]):=by
 obtain ⟨oB,qg,i_,px⟩:=hrow;refine ay.of (n:=32) _ rfl func242 rfl rfl rfl fun g hg R hR=>?_;have i_:=i_.mono hg;have px:=px.mono hg;refine S.seq<|S.region rfl<|O.q 1 rfl<|O.nil<|S.seq<|S.region rfl<|O.q 1 rfl<|O.nil<|S.seq<|S.seq<|S.r9 (ef cD) 102 ?_;refine S.region rfl<|O.q 1 rfl<|O.op (.p rfl) (.nilCheck rfl)<|O.op (.p rfl) (.fieldAddr jj rfl)<|O.op (.p rfl) (.loadAt jh rfl i_ rfl) ?_;refine O.op (.p rfl) (.len rfl underlying216 rfl)<|O.q 1 rfl<|O.nil<|S.block<|S.jT (ι:=Nat) (dI:=Option Addr × Nat) (fun i s=>i≤xs.length) (fun i s=>[(13,.int .i64 (i:Int)),(3,.slice s.1 (xs.take i).length s.2)]) [(11,_),(12,_)] (fun i s=>[cH (ef cD) 102 (.slice s.1 (xs.take i).length s.2) (xs.take i)]) (fun i s=>xs.length - i) (0) ((none,0)) bI (.cons rfl (.cons rfl (.nil))) (.cons rfl (.cons rfl (.nil))) rfl fun i s hx ih=>?_;have aX:=cL (g:=g);refine S.seq<|S.region rfl<|O.op (.p rfl) (.lss rfl rfl)<|O.nil (S.seq ?_)
 first|refine S.cc rfl (fun e9=>?_) (fun e9=>?_)|refine S.b7 rfl (fun e9=>?_) (fun e9=>?_)
 ·have hi:i<xs.length:=by omega
  have hok:=ho _ (List.getElem_mem hi);have lB:=AQ hok;have Zs:(xs.take i).length=i:=by simp;omega
  refine S.skip<|S.seq<|S.block<|S.seq<|S.region rfl<|O.b8 (.p rfl) underlying216 gF rfl rfl rfl (by first|assumption|exact aj.mono hg zE|exact aj.left zE|exact aj.left (aj.mono hg zE)) (h:=fun yh wQ hU k3=>?_);obtain ⟨Ra,Rf,Rj,Rn,Rs,Rw,RA,RE,rfl,IP,Dm⟩:=bK.sh k3;refine O.op (.p rfl) (.bz isAgg220 aa rfl hU) ?_;refine O.aM (.p rfl) (.alloc (cs:=[.string ⟨#[]⟩,.int .i64 0,.int .i64 0,.slice none 0 0,.bool false,.slice none 0 0,.slice none 0 0,.slice none 0 0]) zeroValue220 rfl) ?_;rintro _ _ ⟨gU,rfl,rfl⟩;refine O.bu rfl (.cZ aa rfl rfl rfl rfl ai aW) ?_;refine O.nil<|S.seq<|S.c7 (b:=gU) (cs' :=[.string (str xs[i].1),.int .i64 xs[i].2.1,.int .i64 xs[i].2.2.1,.slice Ra xs[i].2.2.2.1.length Rs,.bool xs[i].2.2.2.2.1,.slice Rf xs[i].2.2.2.2.2.1.length Rw,.slice Rj xs[i].2.2.2.2.2.2.1.length RA,.slice Rn (b9 xs[i]).length RE]) ai rfl ?_;refine S.cW ai fun g hs hm ea=>?_;replace hg:=Fr.aH hg hs;replace hR:=bp hR hm
  try replace i_:=i_.mono hs
  try replace px:=px.mono hs
  try replace hU:=hU.mono hs
  try replace Dm:=Dm.mono hs
  try replace k3:=k3.mono hs
  try replace IP:=IP.mono hs
  replace aX:=dH aX hm;clear hs hm;refine S.region rfl<|O.op (.p rfl) (.fieldAddr zw rfl)<|O.op (.p rfl) (.loadAt bc rfl (ea.drop 7) rfl) ?_;refine O.aB (.p rfl) rfl aa rfl rfl ((Uz (U9 hok) Dm ah)) ?_;rintro _ _ ⟨a3,c3,a5,dP,a6,dF,rfl,rfl⟩
  try simp only [an,aq,au]
  refine O.q 3 rfl<|O.aM (.p rfl) (.alloc (cs:=[.string ⟨#[]⟩,.int .i64 0,.int .i64 0,.slice none 0 0,.bool false,.slice none 0 0,.slice none 0 0]) zeroValue102 rfl) ?_;rintro _ _ ⟨fW,rfl,rfl⟩;refine O.bu rfl (.cZ aa rfl rfl rfl rfl ai aW) ?_;refine O.q 1 rfl<|O.nil<|S.seq<|S.region rfl<|O.q 1 rfl<|O.op (.p rfl) (.eql rfl rfl)<|O.sT 24 rfl aC ?_;refine O.kS (.p rfl) rfl aa rfl rfl (ql _) (fun ch ax w hX hW=>by (exact absurd hX.1 bI)) ?_;rintro _ _ ⟨YQ,rfl,rfl⟩
  try simp only [an,aq,au]
  refine O.nil<|S.x3 (k' :=7) rfl ai fun ak eb=>?_;rw [← eb];refine S.region rfl<|O.q 1 rfl<|O.op (.p rfl) (.ia (news:=[_,_,_,_,_,_,_]) isAgg102) ?_;refine O.aM (.p rfl) (.ct (T:=(ag.cells 7)) (ys:=[_]) underlying22 zj aC rfl rfl ⟨⟨rfl,rfl,by first|(simp;done)|(intro v hv;simp [Value.cells] at hv;rcases hv with rfl|rfl<;>rfl)|(refine List.forall_mem_cons.2 ⟨rfl,?_⟩;repeat (first|exact (fun _ h=>absurd h List.not_mem_nil)|refine List.forall_mem_cons.2 ⟨rfl,?_⟩))⟩,trivial⟩ aC) ?_;rintro _ _ ⟨a28,uZ,rfl,rfl⟩;refine O.aM (.p rfl) (.gT (T:=(ag.cells 7)) underlying22 zj aC rfl rfl ai ai bJ bJ) ?_;rintro _ _ ⟨a29,BW,rfl,rfl⟩;refine O.q 1 rfl<|O.nil<|S.inBlock<|S.region rfl<|O.op (.p rfl) (.add rfl rfl (IntWalk.i64_in _ ah))<|O.q 1 rfl<|O.nil<|S.cB (A:=(ef cD).own (ug xs[i] (.slice a3 xs[i].2.2.2.1.length c3) (.slice a5 xs[i].2.2.2.2.2.1.length dP) (.slice a6 xs[i].2.2.2.2.2.2.1.length dF)) xs[i]) (bs:=yo xs[i] (.slice a3 xs[i].2.2.2.1.length c3) (.slice a5 xs[i].2.2.2.2.2.1.length dP) (.slice a6 xs[i].2.2.2.2.2.2.1.length dF)) bf (fun m h=>Kr hok h) ?_;refine S.x4 (G:=ef cD) (k' :=7) rfl ai ai ai ?_;rw [show xs.take i++[xs[i]]=xs.take (i+1) from (List.take_succ_eq_append_getElem hi).symm];simp only [List.length_singleton];rw [show ak.length+1=(xs.take (i+1)).length from by rw [eb];simp;omega]
  exact S.ic aX (S.pw (ih (i+1) ((a29,BW)) ah ah))
 ·clear ih
  have hi:i=xs.length:=by omega
  subst hi;rw [List.take_length];refine S.exit rfl<|S.seq<|S.region rfl<|O.q 2 rfl<|O.nil ?_;exact S.rt results242 rfl hR ⟨s.1,s.2,rfl,rfl⟩
theorem RP {ss:List (List aP)} {i:Nat} (h:gP (ss.take i).flatten=false):mP ss.flatten=none:=by
 have:gP ss.flatten≠true:=fun q=>by
  rw [show gP (ss.take i).flatten=true from TI q fun x hx=>by
   obtain ⟨l,h1,h2⟩:=List.mem_flatten.1 hx;exact List.mem_flatten.2 ⟨l,List.mem_of_mem_take h1,h2⟩] at h
  cases h
 rw [mP,if_neg this]
def By (l:List aP) (v:Value) (U:List az):Prop:=∃ o a c,mP l=some o∧v=.slice a o.length c∧U=[cH (ef cD) 102 (.slice a o.length c) o]
theorem s9 {ss:List (List aP)} {i:Nat} (hi:i<ss.length):(ss.take (i+1)).flatten=(ss.take i).flatten++ss[i]:=by
 rw [List.take_succ_eq_append_getElem hi,List.flatten_append];simp
theorem N4 {ss:List (List aP)} (i:Nat):(ss.take i).flatten.length≤ss.flatten.length:=by
 have h:=congrArg (fun l=>(List.flatten l).length) (List.take_append_drop i ss);simp only [List.flatten_append,List.length_append] at h
 omega
theorem Sr (l:List aP):(jo l).length≤l.length:=by
 unfold jo r6 qD;exact Nat.le_trans (List.length_filter_le ..) (Nat.le_trans (Cb ..) (Nat.le_of_eq (Wq ..)))
theorem K1 {r:Fr} {p:Nat} {va:Value} {ss:List (List aP)} (hp:At r ⟨p,0,none⟩ [va]) (ha:aj (ag.slice cq) r va ss) (hl:ss.flatten.length≤100000000000) :
  ay prog 240 (#[]++#[]++#[.pointer (some ⟨p,0,none⟩)]) r [] (eL (fun v U=>By ss.flatten v U) (fun ch U=>∃ z,ch=o6 44 z∧(mP ss.flatten=none∧z=4)∧U=[])):=by
 have har:=ha;refine ay.of (n:=25) [.pointer (some ⟨p,0,none⟩)] rfl func240 rfl rfl rfl fun g hg R hR=>?_;have hp:=hp.mono hg;have ha:=ha.mono hg;have hbd:=ha.bound;obtain ⟨a1,c1,rfl⟩:=ha.shape;refine S.seq<|S.region rfl<|O.q 1 rfl<|O.nil<|S.seq<|S.region rfl<|O.op (.p rfl) (.build (cs:=[_]) underlying306 rfl rfl rfl rfl rfl)<|O.aM (.p rfl) (.box (cs:=[_]) rfl rfl) ?_;rintro _ _ ⟨fW,rfl,rfl⟩;refine O.q 1 rfl<|O.nil<|S.seq<|S.seq<|S.conv (B:=obj fW 306 [.slice none 0 0]) (C:=ff r 306 220 5 fW (ss.take 0).flatten) ai (fun m x=>⟨m,Fr.bU _,ff.nil x⟩) ?_;refine S.region rfl<|O.op (.p rfl) (.loadAt N1 rfl hp rfl) ?_;refine O.op (.p rfl) (.len rfl underlying169 rfl)<|O.q 1 rfl<|O.nil<|S.block<|S.e6 (ι:=Nat) (fun i=>i≤ss.length∧gP (ss.take i).flatten=true) (fun i=>[(9,.int .i64 (i:Int))]) [(2,_),(7,_),(8,_)] (fun i=>[ff r 306 220 5 fW (ss.take i).flatten]) (fun i=>ss.length - i) (0) (by exact ⟨by simp,rfl⟩) (.cons rfl (.nil)) (.cons rfl (.cons rfl (.cons rfl (.nil)))) rfl fun i hx ih=>?_;have aX:=cL (g:=g);obtain ⟨hx1,hx2⟩:=hx;refine S.seq<|S.region rfl<|O.op (.p rfl) (.lss rfl rfl)<|O.nil (S.seq ?_)
 first|refine S.cc rfl (fun h10=>?_) (fun h10=>?_)|refine S.b7 rfl (fun h10=>?_) (fun h10=>?_)
 ·have hi:i<ss.length:=by omega
  have hst:=s9 hi;have p7:=N4 (ss:=ss) (i+1);have vv:(ss.take i).flatten.length+ss[i].length≤100000000000:=by rw [hst,List.length_append] at p7;omega
  refine S.skip<|S.seq<|S.block<|S.seq<|S.region rfl<|O.ib (.p rfl) underlying169 Wi rfl rfl rfl har hg (h:=fun T2 Nq DP IW=>?_);have IM:=ag.rel.mono IW hg;obtain ⟨v11,rfl,De⟩:=IW;refine O.op (.p rfl) (.loadAt ew rfl DP rfl) ?_;refine O.q 1 rfl<|O.nil<|S.region rfl<|O.q 1 rfl<|O.op (.p rfl) (.nilCheck rfl)<|O.op (.p rfl) (.aD qH rfl)<|O.q 1 rfl<|O.qA (.p rfl) rfl aa rfl rfl ai ((KO De hx2 vv).sub hg) (fun ch ax w hX hW=>by (obtain ⟨hb,rfl,rfl⟩:=hX;exact hR _ _ w ⟨4,rfl,⟨RP (i:=i+1) (by rw [hst];exact hb),rfl⟩,rfl⟩ hW.qE)) ?_;rintro _ _ ⟨hone,rfl,rfl⟩
  try simp only [an,aq,au]
  refine O.nil (S.inBlock ?_);rw [← hst] at hone ⊢;refine S.region rfl<|O.op (.p rfl) (.add rfl rfl (IntWalk.i64_in _ ah))<|O.q 1 rfl<|O.nil ?_;exact S.dz (ih (i+1) (by exact ⟨by omega,hone⟩) ah)
 ·clear ih
  have hi:i=ss.length:=by omega
  subst hi;rw [List.take_length] at hx2 ⊢;generalize hxs:ss.flatten=xs at hx2 hl ⊢;have hok:=q7 hx2;have oo:mP xs=some (jo xs):=by rw [mP,if_pos hx2]
  refine S.open (A:=ff r 306 220 5 fW xs) ai (fun m x=>x) fun q=>?_;simp only [List.cons_append,List.nil_append];refine S.d_ (A:=b6 (lP r 5) q.2 xs) ai fun g hs hm ⟨_,x',s'⟩=>?_;have xl:=(fun s x=>b6.sU (A:=lP r 5) (fun cs a m' z w=>lP.rel (Fr.aH hg hs) w z) x s) s' x';clear x' s';replace hg:=Fr.aH hg hs;replace hR:=bp hR hm
  try replace hp:=hp.mono hs
  try replace ha:=ha.mono hs
  replace aX:=dH aX hm;clear hs hm;obtain ⟨ps,hp1,hp2,hps⟩:=LP xl;have mO:xs.length=ps.length:=by rw [← hp2,List.length_map]
  rw [← hp1,mO];have Qp:∀ p∈ps,ee p.2=true:=fun p hp=>hok _ (by rw [← hp2];exact List.mem_map.2 ⟨p,hp,rfl⟩);refine S.exit rfl<|S.seq<|S.region rfl<|O.q 1 rfl<|O.e7 (.p rfl) rfl aa rfl rfl bf (Xo hps Qp ah) ?_;rintro v20 _ ⟨k8,a20,y3,rfl,Qr,Qw,rfl⟩
  try simp only [an,aq,au]
  refine O.nil (S.seq ?_);have hjm:k8.map (·.2)=jo xs:=by rw [Qr,hp2]
  have Pz:∀ x∈jo xs,ee x=true:=fun x hx=>hok x (Sv hok x hx);have hjl:k8.length=(jo xs).length:=by rw [← hjm,List.length_map]
  have hjb:(jo xs).length≤100000000000:=Nat.le_trans (Sr xs) hl;refine S.d_ (A:=av (ag.cells 8) 220 (.slice a20 k8.length y3) (k8.map (·.1))) ai fun g hs hm ⟨_,x',s'⟩=>?_;have hqi:=(fun s x=>aj.kO (T:=bK) ((av.arr x).mono s) (tU fun p hp=>ag.mono bK hs (Qw p hp)) rfl) s' x';clear x' s';replace hg:=Fr.aH hg hs;replace hR:=bp hR hm
  try replace hp:=hp.mono hs
  try replace ha:=ha.mono hs
  try replace xl:=xl.mono hs
  replace aX:=dH aX hm;clear hs hm;refine S.cW ai fun g hs hm eT=>?_;replace hg:=Fr.aH hg hs;replace hR:=bp hR hm
  try replace hp:=hp.mono hs
  try replace ha:=ha.mono hs
  try replace xl:=xl.mono hs
  try replace hqi:=hqi.mono hs
  try replace hqi:=hqi.mono hs
  replace aX:=dH aX hm;clear hs hm;have hrow:ru g.h fW (jo xs):=⟨a20,y3,by rw [← hjl];exact eT,by rw [← hjl,← hjm];exact hqi⟩;refine S.region rfl<|O.q 1 rfl<|O.op (.p rfl) (.nilCheck rfl)<|O.op (.p rfl) (.aD qH rfl)<|O.aB (.p rfl) rfl aa rfl rfl ((Wv hrow Pz hjb)) ?_;rintro _ _ ⟨a24,k_,rfl,rfl⟩
  try simp only [an,aq,au]
  refine O.q 1 rfl<|O.nil ?_;exact S.rt results240 rfl hR ⟨jo xs,a24,k_,by rw [hxs];exact oo,rfl,rfl⟩
def Ey (l:List aP) (v:Value) (U:List az):Prop:=(∃ u,By l u U∧v=.tuple #[u,.int .i64 0])∨(mP l=none∧v=.tuple #[.slice none 0 0,.int .i64 4]∧U=[])
theorem KN {r:Fr} {first cap:Array Value} {l:List aP} (con:ay prog 240 (first++#[]++cap) r [] (eL (fun v U=>By l v U) (fun ch U=>∃ z,ch=o6 44 z∧(mP l=none∧z=4)∧U=[]))) (h1:(Value.func (.func 240) first cap).oneCell' =true:=by rfl) :
  ay prog 239 #[.func (.func 240) first cap] r [] (aL fun v U=>Ey l v U) :=
 (W_ aa h1 (fun _ _ h=>by obtain ⟨l,a,c,_,rfl,_⟩:=h;rfl) con).mono (aL.imp fun v U h=>by
  rcases h with ⟨u,h2,h3⟩|⟨z,⟨h2,rfl⟩,h3,h4⟩
  ·exact .inl ⟨u,h2,h3⟩
  ·exact .inr ⟨h2,h4,h3⟩)
theorem Sz {l o:List aP} {v:Value} {U:List az} (e:mP l=some o) (h:Ey l v U):∃ a c,v=.tuple #[.slice a o.length c,.int .i64 0]∧U=[cH (ef cD) 102 (.slice a o.length c) o]:=by
 rcases h with ⟨_,⟨y,a,c,h1,rfl,rfl⟩,rfl⟩|⟨h1,_⟩
 ·rw [e] at h1;obtain rfl:=Option.some.inj h1;exact ⟨a,c,rfl,rfl⟩
 ·rw [e] at h1;cases h1
theorem Sy {l:List aP} {v:Value} {U:List az} (e:mP l=none) (h:Ey l v U):v=.tuple #[.slice none 0 0,.int .i64 4]∧U=[]:=by
 rcases h with ⟨_,⟨y,a,c,h1,_⟩,_⟩|⟨_,h1,h2⟩
 ·rw [e] at h1;cases h1
 ·exact ⟨h1,h2⟩
def qZ (l:List aP):List aP:=(mP l).getD []
def xU (l:List aP):Int:=if (mP l).isSome then 0 else 4
theorem VN {r:Fr} {va:Value} {ss:List (List aP)} (ha:aj (ag.slice cq) r va ss) (hl:ss.flatten.length≤100000000000):ay prog 161 #[va] r [] (aL fun v U=>∃ a c,v=.tuple #[.slice a (qZ ss.flatten).length c,.int .i64 (xU ss.flatten)]∧U=[cH (ef cD) 102 (.slice a (qZ ss.flatten).length c) (qZ ss.flatten)]):=by
 refine ay.of (n:=8) _ rfl func161 rfl rfl rfl fun g hg R hR=>?_;have ha:=ha.mono hg;obtain ⟨a1,c1,rfl⟩:=ha.shape
 cases e:mP ss.flatten with
 |some x =>
  have e1:qZ ss.flatten=x:=by simp [qZ,e]
  have e2:xU ss.flatten=0:=by simp [xU,e]
  rw [e1,e2] at hR;refine S.seq<|S.region rfl<|O.aM (.p rfl) (.box (cs:=[_]) rfl rfl) ?_;rintro _ _ ⟨b1,rfl,rfl⟩;refine O.cW ai fun g hs hm kW=>?_;replace hg:=Fr.aH hg hs;replace hR:=bp hR hm
  try replace ha:=ha.mono hs
  clear hs hm;refine O.q 2 rfl<|O.nil<|S.seq<|S.region rfl<|O.op (.p rfl) (.jc rfl rfl)<|O.aB (.p rfl) rfl aa rfl rfl (((KN (K1 kW ha hl)).mono (aL.imp fun _ _ h=>Sz e h))) ?_;rintro _ _ ⟨a5,dP,rfl,rfl⟩
  try simp only [an,aq,au]
  refine O.q 4 rfl<|O.nil<|S.mW results161 rfl rfl fun w hw=>Holds.end_ hR hw ?_;exact pk ⟨a5,dP,rfl,rfl⟩
 |none =>
  have e1:qZ ss.flatten=[]:=by simp [qZ,e]
  have e2:xU ss.flatten=4:=by simp [xU,e]
  rw [e1,e2] at hR;refine S.seq<|S.region rfl<|O.aM (.p rfl) (.box (cs:=[_]) rfl rfl) ?_;rintro _ _ ⟨b1,rfl,rfl⟩;refine O.cW ai fun g hs hm kW=>?_;replace hg:=Fr.aH hg hs;replace hR:=bp hR hm
  try replace ha:=ha.mono hs
  clear hs hm;refine O.q 2 rfl<|O.nil<|S.seq<|S.region rfl<|O.op (.p rfl) (.jc rfl rfl)<|O.aB (.p rfl) rfl aa rfl rfl (((KN (K1 kW ha hl)).mono (aL.imp fun _ _ h=>Sy e h))) ?_;rintro _ _ ⟨rfl,rfl⟩
  try simp only [an,aq,au]
  refine O.q 4 rfl<|O.nil<|S.r9 (ef cD) 102 ?_;refine S.mW results161 rfl rfl fun w hw=>Holds.end_ hR hw ?_;exact pk ⟨none,0,rfl,rfl⟩
theorem Ss {a:List aP} (h:fJ a):jo a=a:=(Sq (q7 h.1) fun x=>by simp).trans (Su h)
theorem Sw {a:List aP} (h:fJ a):qZ [a].flatten=a:=by
 have:[a].flatten=a:=by simp
 rw [this,qZ,mP,if_pos h.1,Ss h];rfl
theorem yg {r:Fr} {va:Value} {xs:List aP} (ha:aj cq r va xs) (h:fJ xs) (hl:xs.length≤100000000000) :
  ay prog 92 #[va] r [] (aL fun v U=>∃ a c,v=.slice a xs.length c∧U=[cH (ef cD) 102 (.slice a xs.length c) xs]):=by
 obtain ⟨a1,c1,rfl⟩:=ha.shape;refine ay.of (n:=10) _ rfl func92 rfl rfl rfl fun g hg R hR=>?_;have ha:=ha.mono hg;have e:=Sw h;refine S.seq<|S.region rfl<|O.q 1 rfl<|O.nil<|S.seq<|S.region rfl<|O.q 1 rfl<|O.aM (.p rfl) (.ct (T:=ag.cells 1) (ys:=[[.slice a1 xs.length c1]]) underlying169 NP aC rfl rfl ⟨⟨rfl,rfl,by first|(simp;done)|(intro v hv;simp [Value.cells] at hv;rcases hv with rfl|rfl<;>rfl)|(refine List.forall_mem_cons.2 ⟨rfl,?_⟩;repeat (first|exact (fun _ h=>absurd h List.not_mem_nil)|refine List.forall_mem_cons.2 ⟨rfl,?_⟩))⟩,trivial⟩ aC) ?_;rintro _ _ ⟨a5,dP,rfl,rfl⟩;refine O.fo ai fun g hs hm OL=>?_;replace hg:=Fr.aH hg hs;replace hR:=bp hR hm
 try replace ha:=ha.mono hs
 clear hs hm;refine O.aB (.p rfl) rfl aa rfl rfl ((VN (ss:=[xs]) (aj.kO OL ⟨⟨_,rfl,ha⟩,trivial⟩ rfl) b5)) ?_;rintro _ _ ⟨a6,dF,rfl,rfl⟩
 try simp only [an,aq,au]
 rw [e];refine O.q 4 rfl<|O.nil<|S.seq<|S.region rfl<|O.q 2 rfl<|O.nil ?_;exact S.rt results92 rfl hR ⟨a6,dF,rfl,rfl⟩
theorem Bb {r:Fr} {va:Value} {n:List UInt8} {z:Int} (ha:aj ag.u8 r va n) (hz:cG z) (hH:At r ⟨0,0,none⟩ (bR er)) (hK:At r ⟨1,0,none⟩ (bR gr)) (hl:n.length≤1000000000000) :
  ay prog 24 #[.int .i64 z,va] r [] (aL fun v U=>∃ a c,v=.slice a (ek z n).length c∧U=[av ag.u8 5 (.slice a (ek z n).length c) (ek z n)]):=by
 obtain ⟨a1,c1,rfl⟩:=ha.shape;refine ay.of (n:=22) _ rfl func24 rfl rfl rfl fun g hg R hR=>?_;have ha:=ha.mono hg;have hH:=hH.mono hg;have hK:=hK.mono hg
 by_cases h1:0≤z∧z<4
 ·by_cases h2:n.length=64
  ·have e:ek z n=lM (4::Sp.byteOf z::n):=by unfold ek;rw [if_pos ⟨h1.1,h1.2,h2⟩]
   have e2:(ek z n).length=64:=by rw [e,qj]
   refine S.seq<|S.region rfl<|O.q 1 rfl<|O.nil<|S.seq<|S.seq<|S.region rfl<|O.q 1 rfl<|O.op (.p rfl) (.lss rfl rfl)<|O.aN 6 rfl (by exact decide_eq_false ah) ?_;refine O.q 2 rfl<|O.op (.g rfl rfl) (.geq rfl rfl)<|O.aN 9 rfl (by exact decide_eq_false ah) ?_;refine O.q 3 rfl<|O.op (.g rfl rfl) (.len rfl underlying24 rfl)<|O.op (.g rfl rfl) (.neq rfl rfl)<|O.aN 14 rfl (by exact decide_eq_false ah) ?_;refine O.q 1 rfl<|O.nil<|S.aQ rfl<|S.skip<|S.seq<|S.region rfl<|O.q 1 rfl<|O.op (.p rfl) (.lU underlying3 underlying5 rfl)<|O.slot 17 (v' :=bD (Sp.byteOf z)) rfl (by exact LF z) ?_;refine O.aM (.p rfl) (.ct (T:=ag.u8) (ys:=[4,Sp.byteOf z]) underlying24 eR aC rfl rfl ⟨rfl,rfl,trivial⟩ aC) ?_;rintro _ _ ⟨j6,j8,rfl,rfl⟩;refine O.fo ai fun g hs hm Dg=>?_;replace hg:=Fr.aH hg hs;replace hR:=bp hR hm
   try replace ha:=ha.mono hs
   try replace hH:=hH.mono hs
   try replace hK:=hK.mono hs
   clear hs hm;refine O.q 1 rfl<|O.aM (.p rfl) (.ct (T:=ag.cells 1) (ys:=[[.slice j6 2 j8],[.slice a1 n.length c1]]) underlying109 iC aC rfl rfl ⟨⟨rfl,rfl,by first|(simp;done)|(intro v hv;simp [Value.cells] at hv;rcases hv with rfl|rfl<;>rfl)|(refine List.forall_mem_cons.2 ⟨rfl,?_⟩;repeat (first|exact (fun _ h=>absurd h List.not_mem_nil)|refine List.forall_mem_cons.2 ⟨rfl,?_⟩))⟩,⟨rfl,rfl,by first|(simp;done)|(intro v hv;simp [Value.cells] at hv;rcases hv with rfl|rfl<;>rfl)|(refine List.forall_mem_cons.2 ⟨rfl,?_⟩;repeat (first|exact (fun _ h=>absurd h List.not_mem_nil)|refine List.forall_mem_cons.2 ⟨rfl,?_⟩))⟩,trivial⟩ aC) ?_;rintro _ _ ⟨a20,y3,rfl,rfl⟩;refine O.fo ai fun g hs hm OE=>?_;replace hg:=Fr.aH hg hs;replace hR:=bp hR hm
   try replace ha:=ha.mono hs
   try replace hH:=hH.mono hs
   try replace hK:=hK.mono hs
   try replace Dg:=Dg.mono hs
   clear hs hm;refine O.aB (.p rfl) rfl aa rfl rfl ((yy (ps:=[[4,Sp.byteOf z],n]) (aj.kO OE ⟨⟨_,rfl,Dg⟩,⟨_,rfl,ha⟩,trivial⟩ rfl) hH hK b5)) ?_;rintro _ _ ⟨a21,BU,rfl,rfl⟩
   try simp only [an,aq,au]
   refine O.q 1 rfl<|O.nil<|S.jr (T:=ag.u8) (e:=5) (v' :=.slice a21 (ek z n).length BU) (xs' :=ek z n) ai (by rw [e2]) (by rw [e];simp) ?_;exact S.rt results24 rfl hR ⟨a21,BU,by rw [e2],rfl⟩
  ·have e:ek z n=[]:=by unfold ek;rw [if_neg fun q=>h2 q.2.2]
   refine S.seq<|S.region rfl<|O.q 1 rfl<|O.nil<|S.seq<|S.seq<|S.region rfl<|O.q 1 rfl<|O.op (.p rfl) (.lss rfl rfl)<|O.aN 6 rfl (by exact decide_eq_false ah) ?_;refine O.q 2 rfl<|O.op (.g rfl rfl) (.geq rfl rfl)<|O.aN 9 rfl (by exact decide_eq_false ah) ?_;refine O.q 3 rfl<|O.op (.g rfl rfl) (.len rfl underlying24 rfl)<|O.op (.g rfl rfl) (.neq rfl rfl)<|O.sT 14 rfl (by exact decide_eq_true ah) ?_;refine O.q 1 rfl<|O.nil<|S.bx rfl<|S.seq<|S.region rfl<|O.q 1 rfl<|O.nil<|S.gh (T:=ag.u8) (e:=5) ?_;refine S.jr (T:=ag.u8) (e:=5) (v' :=.slice none (ek z n).length 0) (xs' :=ek z n) ai (by rw [e];rfl) e.symm ?_;exact S.rt results24 rfl hR ⟨none,0,by rw [e];rfl,rfl⟩
 ·have e:ek z n=[]:=by unfold ek;rw [if_neg fun q=>h1 ⟨q.1,q.2.1⟩]
  by_cases h3:z<0
  ·
   refine S.seq<|S.region rfl<|O.q 1 rfl<|O.nil<|S.seq<|S.seq<|S.region rfl<|O.q 1 rfl<|O.op (.p rfl) (.lss rfl rfl)<|O.sT 6 rfl (by exact decide_eq_true h3) ?_;refine O.q 9 rfl<|O.nil<|S.bx rfl<|S.seq<|S.region rfl<|O.q 1 rfl<|O.nil<|S.gh (T:=ag.u8) (e:=5) ?_;refine S.jr (T:=ag.u8) (e:=5) (v' :=.slice none (ek z n).length 0) (xs' :=ek z n) ai (by rw [e];rfl) e.symm ?_;exact S.rt results24 rfl hR ⟨none,0,by rw [e];rfl,rfl⟩
  ·
   refine S.seq<|S.region rfl<|O.q 1 rfl<|O.nil<|S.seq<|S.seq<|S.region rfl<|O.q 1 rfl<|O.op (.p rfl) (.lss rfl rfl)<|O.aN 6 rfl (by exact decide_eq_false h3) ?_;refine O.q 2 rfl<|O.op (.g rfl rfl) (.geq rfl rfl)<|O.sT 9 rfl (by exact decide_eq_true ah) ?_;refine O.q 6 rfl<|O.nil<|S.bx rfl<|S.seq<|S.region rfl<|O.q 1 rfl<|O.nil<|S.gh (T:=ag.u8) (e:=5) ?_;refine S.jr (T:=ag.u8) (e:=5) (v' :=.slice none (ek z n).length 0) (xs' :=ek z n) ai (by rw [e];rfl) e.symm ?_;exact S.rt results24 rfl hR ⟨none,0,by rw [e];rfl,rfl⟩
theorem EO {r:Fr} {s:Nat} (hs:s<4):ay prog 29 #[.int .i64 (s:Int)] r [] (aL fun v U=>∃ b,v=.pointer (some ⟨b,0,none⟩)∧U=[bl aJ Fr.emp b s []]):=by
 refine ay.of (n:=13) _ rfl func29 rfl rfl rfl fun g hg R hR=>?_;refine S.seq<|S.region rfl<|O.q 1 rfl<|O.nil<|S.seq<|S.seq<|S.region rfl<|O.q 1 rfl<|O.op (.p rfl) (.lss rfl rfl)<|O.aN 4 rfl (by exact decide_eq_false ah) ?_;refine O.q 2 rfl<|O.op (.g rfl rfl) (.geq rfl rfl)<|O.aN 7 rfl (by exact decide_eq_false ah) ?_;refine O.q 1 rfl<|O.nil<|S.aQ rfl<|S.skip<|S.seq<|S.region rfl<|O.q 1 rfl<|O.aM (.p rfl) (.pK (enc:=encS)) ?_;rintro _ _ ⟨wF,rfl,rfl⟩;refine O.op (.p rfl) (.build (cs:=[_,_,_,_]) underlying77 rfl rfl rfl rfl rfl)<|O.aM (.p rfl) (.box (cs:=[_,_,_,_]) rfl rfl) ?_;rintro _ _ ⟨nr,rfl,rfl⟩;refine O.q 1 rfl<|O.nil<|S.cB (A:=bl aJ Fr.emp nr s []) (bs:=[obj nr 77 [.slice none 0 0,.slice none 0 0,.int .i64 (s:Int),.map (some wF)],ck encS wF [] 0]) bf (fun m h=>WW h) ?_;exact S.rt results29 rfl hR ⟨nr,rfl,rfl⟩
attribute [local irreducible] bw bZ
structure gK (r d:Fr) (s:Nat) (L:List aG):Prop where
 hd:d.sub r
 ok:iv s L
 small:L.length≤10000000∧∀ y∈L,y.2.1.length≤10000000
 hH:At r ⟨0,0,none⟩ (bR er)
 hK:At r ⟨1,0,none⟩ (bR gr)
theorem gK.mono {r r' d:Fr} {s:Nat} {L:List aG} (h:gK r d s L) (e:r.sub r'):gK r' d s L:=⟨Fr.aH h.hd e,h.ok,h.small,h.hH.mono e,h.hK.mono e⟩
def LY (d:Fr) (b s:Nat) (L:List aG) (x:dJ) (v:Value) (U:List az):Prop:=∃ a1 k1 a2 k2 a3 bg,v=.agg #[bD x.1,.slice a1 x.2.1.length k1,.slice a2 x.2.2.1.length k2,.slice a3 x.2.2.2.1.length bg] ∧
 U=[bl aJ d b s L,av ag.u8 5 (.slice a1 x.2.1.length k1) x.2.1,av ag.u8 5 (.slice a2 x.2.2.1.length k2) x.2.2.1,cH (en cD) 31 (.slice a3 x.2.2.2.1.length bg) x.2.2.2.1]
def Bz (d:Fr) (s:Nat) (L:List aG) (n:Nat):Prop:=∀ ⦃r:Fr⦄ ⦃b:Nat⦄ ⦃p:List UInt8⦄ ⦃va:Value⦄ ⦃a:List Nat⦄,gK r d s L→p.length+n=510→js p→aj ag.nat r va a→(∀ i∈a,i<L.length)→a.length≤10000000→gi L a=dO p L →
 ay prog 99 #[.pointer (some ⟨b,0,none⟩),.string (str p),va] r [bl aJ d b s L] (aL (LY d b s L (bw L p)))
def wv (d:Fr) (s:Nat) (L:List aG) (n:Nat):Prop:=∀ ⦃r:Fr⦄ ⦃b:Nat⦄ ⦃p:List UInt8⦄ ⦃va:Value⦄ ⦃a:List Nat⦄,gK r d s L→p.length+n=510→js p→aj ag.nat r va a→(∀ i∈a,i<L.length)→a.length≤10000000→gi L a=dO p L →
 ay prog 96 #[.pointer (some ⟨b,0,none⟩),.string (str p),va] r [bl aJ d b s L] (aL fun v U=>∃ a1 c1,v=.slice a1 64 c1∧U=[jB aJ d b s L (.slice a1 64 c1) (bZ L p)])
theorem Tw {m:Fr} {k:UInt8} {v1 v2 v3:Value} {l r:List UInt8} {lv:List aG} (h:Sat [av ag.u8 5 v1 l,av ag.u8 5 v2 r,cH (en cD) 31 v3 lv] m):gv.rel m [bD k,v1,v2,v3] (k,l,r,lv,()):=by
 obtain ⟨m1,m2,_,s1,s2,o1,m3,m4,_,s3,pO,o2,m5,_,_,yw,_,k7,_⟩:=h;have t3:=Fr.aH s3 s2;have t5:=Fr.aH yw (Fr.aH pO s2);exact gv.mk (o1.arr.mono s1) (o2.arr.mono t3) ((cH.arr k7).mono t5)
theorem Lc {d:Fr} {s:Nat} {L:List aG} {n:Nat} (hn:Bz d s L n):wv d s L n:=by
 intro r b p va a hT xF hp ha dm hal od
 obtain ⟨a1,c1,rfl⟩:=ha.shape;have iE:=qn hT.ok p;refine ay.of (n:=33) _ rfl func96 rfl rfl rfl fun g hg R hR=>?_;have hT:=hT.mono hg;have ha:=ha.mono hg;refine S.open (bs:=bP.ws aJ b s) ai (fun m x=>bl.jq x) fun x=>?_;simp only [bP.ws,List.cons_append,List.nil_append]
 cases e:cE x.M p with
 |some v =>
  obtain ⟨q,_,hv⟩:=(x.ok p v e).2;obtain ⟨a7,iB,hvs⟩:=hv.shape;rw [iE] at hvs;subst hvs;refine S.seq<|S.region rfl<|O.q 1 rfl<|O.nil<|S.seq<|S.region rfl<|O.q 1 rfl<|O.op (.p rfl) (.nilCheck rfl)<|O.op (.p rfl) (.aD p6 rfl)<|O.op (.p rfl) (.lo lW) ?_;refine O.q 1 rfl<|O.op (.p rfl) (.ow underlying75 (qa underlying9) zeroValue24 rfl rfl ai) ?_;refine O.slot 15 (v' :=.tuple #[.slice a7 64 iB,.bool true]) rfl (by rw [e];rfl) ?_;refine O.q 3 rfl<|O.sT 17 rfl aK ?_;refine O.q 2 rfl<|O.nil<|S.seq<|S.seq<|S.region rfl<|O.q 1 rfl<|O.op (.p rfl) (.not rfl)<|O.nil<|S.aQ rfl<|S.skip<|S.seq<|S.region rfl<|O.q 2 rfl<|O.nil<|S.cB (A:=jB aJ d b s L (.slice a7 64 iB) (bZ L p)) (bs:=x.ws aJ b s) bf (fun m h=>jB.fold x e h) ?_;exact S.rt results96 rfl hR ⟨a7,iB,rfl,rfl⟩
 |none =>
  refine S.seq<|S.region rfl<|O.q 1 rfl<|O.nil<|S.seq<|S.region rfl<|O.q 1 rfl<|O.op (.p rfl) (.nilCheck rfl)<|O.op (.p rfl) (.aD p6 rfl)<|O.op (.p rfl) (.lo lW) ?_;refine O.q 1 rfl<|O.op (.p rfl) (.ow underlying75 (qa underlying9) zeroValue24 rfl rfl ai) ?_;refine O.slot 15 (v' :=.tuple #[.slice none 0 0,.bool false]) rfl (by rw [e];rfl) ?_;refine O.q 3 rfl<|O.aN 17 rfl aK ?_;refine O.q 2 rfl<|O.nil<|S.seq<|S.seq<|S.region rfl<|O.q 1 rfl<|O.op (.p rfl) (.not rfl)<|O.nil<|S.bx rfl<|S.seq<|S.cB (A:=bl aJ d b s L) (bs:=x.ws aJ b s) bf (fun m h=>bl.fold x h) ?_;have hok:=Bc hT.ok p;have tP:=FR hT.small p;have h12:=Au hok;have hsum:fP (bw L p)=bZ L p:=Ln L p;have YU:p.length≤510:=hp.1;refine S.region rfl<|O.q 3 rfl<|O.bM (.p rfl) rfl aa rfl rfl ai (hn hT xF hp ha dm hal od) ?_;rintro _ _ ⟨q1,d1,q2,d2,cF,d3,rfl,rfl⟩
  try simp only [an,aq,au]
  refine O.dw (.p rfl) rfl aa rfl rfl (bs:=[av ag.u8 5 (.slice q1 (bw L p).2.1.length d1) (bw L p).2.1,av ag.u8 5 (.slice q2 (bw L p).2.2.1.length d2) (bw L p).2.2.1,cH (en cD) 31 (.slice cF (bw L p).2.2.2.1.length d3) (bw L p).2.2.2.1]) bf (fun m hm hd=>As (ag.rel.mono (Tw hm) (Fr.dL hd)) h12 tP (hT.hH.mono (Fr.de _ _)) (hT.hK.mono (Fr.de _ _))) ?_;rintro _ _ ⟨a24,k_,rfl,rfl⟩
  try simp only [an,aq,au]
  refine O.q 1 rfl<|O.nil ?_;rw [hsum,iE];refine S.open (bs:=bP.ws aJ b s) ai (fun m x=>bl.jq x) fun y=>?_;simp only [bP.ws,List.cons_append,List.nil_append];have fq:=hg;have fp:=hR
  try have qK:=hT
  try have nF:=ha
  refine S.iD (B:=obj b 77 [y.c8,y.c9,.int .i64 (s:Int),.map (some y.mid)]) ai fun go cI ⟨qf,hmo,jE⟩ eT=>?_;replace hg:=Fr.aH hg cI;replace hR:=iy hR eT
  try replace hT:=hT.mono cI
  try replace ha:=ha.mono cI
  have dm:=(gf hmo).mono jE;refine S.bB (L:=[0,1,2,3,4,6,5,7]) bA aa ?_;refine af.q 1 rfl<|.quiet (.p rfl) rfl (fun _=>.nilCheck rfl)<|.quiet (.p rfl) rfl (fun _=>.fieldAddr p6 rfl)<|.quiet (.p rfl) rfl (fun _=>.loadAt lW rfl (dm.drop 3) rfl) ?_;refine af.q 2 rfl<|af.aB (.p rfl) aa rfl aa rfl rfl ((KI ah)) ?_;rintro _ _ ⟨rfl,rfl⟩
  try simp only [an,aq,au]
  refine af.sg rfl aa underlying75 (qa underlying9) rfl rfl rfl ai ?_;refine aI.nil<|S.seq<|S.back eT ?_;replace hg:=fq;replace hR:=fp
  try replace hT:=qK
  try replace ha:=nF
  clear fq fp;refine S.cB (A:=jB aJ d b s L (.slice a24 64 k_) (bZ L p)) (bs:=y.LI aJ b s 5 (.slice a24 64 k_) p (bZ L p)) bf (fun m h=>jB.put y hp rfl h) ?_;refine S.region rfl<|O.q 2 rfl<|O.nil ?_;exact S.rt results96 rfl hR ⟨a24,k_,rfl,rfl⟩
theorem Ba (p q:List UInt8):str p++str q=str (p++q):=by apply ByteArray.ext;simp [str]
theorem Ii {d:Fr} {s:Nat} {L:List aG} {n:Nat} (hs:wv d s L n) {r:Fr} {b b3 b4 gU:Nat} {p:List UInt8} {va:Value} {a:List Nat} {z:UInt8} (hz:z=48∨z=49) (hT:gK r d s L) (xF:p.length+(n+1)=510) (hp:js p) (ha:aj ag.nat r va a) (dm:∀ i∈a,i<L.length) (hal:a.length≤10000000) (od:gi L a=dO p L)
  (h3:At r ⟨b3,0,none⟩ [.pointer (some ⟨b,0,none⟩)]) (h4:At r ⟨b4,0,none⟩ [.string (str p)]) (h5:At r ⟨gU,0,none⟩ [va]) :
  ay prog 164 (#[]++#[.string (str [z])]++#[.pointer (some ⟨b3,0,none⟩),.pointer (some ⟨b4,0,none⟩),.pointer (some ⟨gU,0,none⟩)]) r [bl aJ d b s L] (aL fun v U=>∃ a1 c1,v=.slice a1 64 c1∧U=[bl aJ d b s L,av ag.u8 5 (.slice a1 64 c1) (bZ L (p++[z]))]):=by
 obtain ⟨a1,c1,rfl⟩:=ha.shape;have iE:=qn hT.ok (p++[z]);have hlen:(p++[z]).length=p.length+1:=by simp
 have hp2:js (p++[z]):=⟨by omega,fun c hc=>by
  rcases List.mem_append.1 hc with q|q
  ·exact hp.2 c q
  ·rw [List.mem_singleton.1 q];exact hz⟩
 have O_:gi L (fC L (p++[z]) a)=dO (p++[z]) L:=by rw [yV L _ a dm,od,FV]
 have hs1:(str p).size=p.length:=uu p;have hs2:(str [z]).size=1:=uu [z];have O7:=FU (p:=p++[z]) dm;have O0:=Be L (p++[z]) a;refine ay.of (n:=20) [.string (str [z]),.pointer (some ⟨b3,0,none⟩),.pointer (some ⟨b4,0,none⟩),.pointer (some ⟨gU,0,none⟩)] rfl func164 rfl rfl rfl fun g hg R hR=>?_;have hT:=hT.mono hg;have ha:=ha.mono hg;have h3:=h3.mono hg;have h4:=h4.mono hg;have h5:=h5.mono hg;refine S.seq<|S.region rfl<|O.q 1 rfl<|O.nil<|S.seq<|S.bB (L:=[0,1,2,3,4,5,6,7,8,9,10,11,12,13,14]) bA aa<|.quiet (.p rfl) rfl (fun _=>.loadAt o8 rfl h3 rfl) ?_;refine .quiet (.p rfl) rfl (fun _=>.loadAt bL rfl h4 rfl) ?_;refine af.q 1 rfl<|.quiet (.p rfl) rfl (fun _=>.yR rfl rfl ah)<|af.slot 9 (v' :=.string (str (p++[z]))) rfl (by rw [Ba]) ?_;refine .quiet (.p rfl) rfl (fun _=>.loadAt o8 rfl h3 rfl) ?_;refine .quiet (.p rfl) rfl (fun _=>.nilCheck rfl)<|.quiet (.p rfl) rfl (fun _=>.fieldAddr lz rfl)<|.quiet (.p rfl) rfl (fun _=>.loadAt bL rfl h4 rfl) ?_;refine af.q 1 rfl<|.quiet (.p rfl) rfl (fun _=>.yR rfl rfl ah)<|af.slot 15 (v' :=.string (str (p++[z]))) rfl (by rw [Ba]) ?_;refine .quiet (.p rfl) rfl (fun _=>.loadAt ny rfl h5 rfl) ?_
 refine af.dw (.p rfl) aa rfl aa rfl rfl (bs:=[bl aJ d b s L]) bf (fun m hm hd=>FW (bl.jG hT.hd hd hm) (ha.mono (Fr.de _ _)) dm ah hal) ?_;rintro _ _ ⟨a17,qx,rfl,rfl⟩
 try simp only [an,aq,au]
 refine af.e7 (.p rfl) aa rfl aa rfl rfl (bs:=[bl aJ d b s L,av ag.nat 3 (.slice a17 (fC L (p++[z]) a).length qx) (fC L (p++[z]) a)]) bf (ay.xY (U:=[bl aJ d b s L]) (bs:=[av ag.nat 3 (.slice a17 (fC L (p++[z]) a).length qx) (fC L (p++[z]) a)]) (fun m hm hd=>hs (hT.mono (Fr.de _ _)) ah hp2 ((vR hm).mono (Fr.dL hd)) O7 ah O_)) ?_;rintro _ _ ⟨j6,j8,rfl,rfl⟩
 try simp only [an,aq,au]
 refine af.dw (.p rfl) aa rfl aa rfl rfl (bs:=[jB aJ d b s L (.slice j6 64 j8) (bZ L (p++[z]))]) bf (fun m hm hd=>eE (jB.jG hT.hd hd hm) ah) ?_;rintro _ _ ⟨yQ,y2,rfl,rfl⟩
 try simp only [an,aq,au]
 refine af.q 1 rfl<|aI.nil ?_;rw [iE];refine S.cB (A:=bl aJ d b s L) (bs:=[jB aJ d b s L (.slice j6 64 j8) (bZ L (p++[z]))]) bf (fun m h=>jB.toX h) ?_;exact S.rt results164 rfl hR ⟨yQ,y2,rfl,rfl⟩
theorem WN {r d:Fr} {b s:Nat} {L:List aG} {p:List UInt8} (hT:gK r d s L) :
  ay prog 39 #[.pointer (some ⟨b,0,none⟩),.string (str p)] r [bl aJ d b s L] (aL fun v U=>∃ a c,v=.slice a (nB L p).length c∧U=[bl aJ d b s L,cH (ef cD) 102 (.slice a (nB L p).length c) (nB L p)]):=by
 have hbL:L.length≤10000000:=hT.small.1;refine ay.of (n:=29) _ rfl func39 rfl rfl rfl fun g hg R hR=>?_;have hT:=hT.mono hg;refine S.seq<|S.region rfl<|O.q 1 rfl<|O.nil<|S.seq<|S.seq<|S.region rfl<|O.q 1 rfl<|O.dw (.p rfl) rfl aa rfl rfl (bs:=[bl aJ d b s L]) bf (fun m hm hd=>qm (bl.jG hT.hd hd hm)) ?_;rintro _ _ ⟨rfl,rfl⟩
 try simp only [an,aq,au]
 refine O.sT 8 rfl aK ?_;refine O.op (.p rfl) (.not rfl)<|O.nil<|S.aQ rfl<|S.skip<|S.seq<|S.seq<|S.region rfl<|O.q 1 rfl<|O.op (.p rfl) (.nilCheck rfl)<|O.op (.p rfl) (.fieldAddr lz rfl)<|O.q 1 rfl<|O.dw (.p rfl) rfl aa rfl rfl (bs:=[bl aJ d b s L]) bf (fun m hm hd=>HD (bl.jG hT.hd hd hm) hT.ok.2 ah) ?_;rintro _ _ ⟨rfl,rfl⟩
 try simp only [an,aq,au]
 refine O.q 5 rfl<|O.nil (S.seq ?_)
 by_cases q:k6 L p
 ·have hi:=q.1
  have e:nB L p=(L[aY L p]'hi).2.1:=by unfold nB;rw [dif_pos q]
  have p8:=hT.small.2 _ (List.getElem_mem hi);have iG:=(hT.ok.1 _ (List.getElem_mem hi)).1;rw [e] at hR;have fq:=hg;have fp:=hR
  try have qK:=hT
  refine S.iD (B:=bl aJ d b s L) ai fun go cI ⟨qf,hmo,jE⟩ eT=>?_;replace hg:=Fr.aH hg cI;replace hR:=iy hR eT
  try replace hT:=hT.mono cI
  have hA:=bl.a hT.hd jE hmo;obtain ⟨cO,cQ,cz,cA,mid,tv,tr,H6⟩:=hA;refine S.region rfl<|O.q 1 rfl<|O.sT 18 rfl (by exact decide_eq_true q) ?_;refine O.nil<|S.bx rfl<|S.seq<|S.region rfl<|O.q 1 rfl<|O.op (.p rfl) (.nilCheck rfl)<|O.op (.p rfl) (.fieldAddr lz rfl)<|O.op (.p rfl) (.fieldAddr gN rfl)<|O.op (.p rfl) (.loadAt dK rfl tv rfl) ?_;refine O.q 1 rfl<|O.b8 (.p rfl) underlying25 di rfl rfl (show _=(((aY L p):Nat):Int) by omega) (tr) (h:=fun T3 Nr tJ Ea=>?_);obtain ⟨l1,m1,rfl,l2,l3⟩:=bW.sh Ea;refine O.op (.p rfl) (.fieldAddr fG rfl)<|O.op (.p rfl) (.loadAt ew rfl (tJ.drop 1) rfl) ?_;refine O.aB (.p rfl) rfl aa rfl rfl ((yg l3 iG.2.1 ah)) ?_;rintro _ _ ⟨a28,uZ,rfl,rfl⟩
  try simp only [an,aq,au]
  refine O.q 1 rfl<|O.nil<|S.back eT ?_;replace hg:=fq;replace hR:=fp
  try replace hT:=qK
  clear fq fp;exact S.rt results39 rfl hR ⟨a28,uZ,rfl,rfl⟩
 ·have e:nB L p=[]:=by unfold nB;rw [dif_neg q]
  rw [e] at hR;refine S.region rfl<|O.q 1 rfl<|O.aN 18 rfl (by exact decide_eq_false q) ?_;refine O.nil<|S.aQ rfl<|S.skip<|S.seq<|S.region rfl<|O.q 1 rfl<|O.nil<|S.r9 (ef cD) 102 ?_;exact S.rt results39 rfl hR ⟨none,0,rfl,rfl⟩
theorem Le {r:Fr} {b s:Nat} {L:List aG} (h:kC r b s L) (hok:iv s L) (hs:L.length≤10000000∧∀ y∈L,y.2.1.length≤10000000) :
  ay prog 31 #[.pointer (some ⟨b,0,none⟩)] r [] (aL fun v U=>∃ a c,v=.slice a L.length c∧U=[cH (en cD) 31 (.slice a L.length c) L]):=by
 have h0:=h;have hbL:=hs.1;obtain ⟨cO,cQ,cz,cA,mid,h,hL,_⟩:=h;refine ay.of (n:=30) _ rfl func31 rfl rfl rfl fun g hg R hR=>?_;have h:=h.mono hg;have h0:=h0.mono hg;have hL:=hL.mono hg;refine S.r9 (en cD) 31 ?_;refine S.seq<|S.region rfl<|O.q 1 rfl<|O.nil<|S.seq<|S.seq<|S.region rfl<|O.q 1 rfl<|O.aB (.p rfl) rfl aa rfl rfl ((qm h0)) ?_;rintro _ _ ⟨rfl,rfl⟩
 try simp only [an,aq,au]
 refine O.sT 7 rfl aK ?_;refine O.op (.p rfl) (.not rfl)<|O.nil<|S.aQ rfl<|S.skip<|S.seq<|S.region rfl<|O.q 1 rfl<|O.nil<|S.seq<|S.seq<|S.region rfl<|O.q 1 rfl<|O.op (.p rfl) (.nilCheck rfl)<|O.op (.p rfl) (.fieldAddr lz rfl)<|O.op (.p rfl) (.fieldAddr gN rfl)<|O.op (.p rfl) (.loadAt dK rfl h rfl) ?_;refine O.op (.p rfl) (.len rfl underlying25 rfl)<|O.q 1 rfl<|O.nil<|S.block<|S.jT (ι:=Nat) (dI:=Option Addr × Nat) (fun i u=>i≤L.length) (fun i u=>[(15,.int .i64 (i:Int)),(3,.slice u.1 (L.take i).length u.2)]) [(13,_),(14,_)] (fun i u=>[cH (en cD) 31 (.slice u.1 (L.take i).length u.2) (L.take i)]) (fun i u=>L.length - i) (0) ((none,0)) bI (.cons rfl (.cons rfl (.nil))) (.cons rfl (.cons rfl (.nil))) rfl fun i u hx ih=>?_;have aX:=cL (g:=g);refine S.seq<|S.region rfl<|O.op (.p rfl) (.lss rfl rfl)<|O.nil (S.seq ?_)
 first|refine S.cc rfl (fun j_=>?_) (fun j_=>?_)|refine S.b7 rfl (fun j_=>?_) (fun j_=>?_)
 ·have hi:i<L.length:=by omega
  have p8:=hs.2 _ (List.getElem_mem hi);have iG:=(hok.1 _ (List.getElem_mem hi)).1;have eU:L.take i++[L[i]]=L.take (i+1):=(List.take_succ_eq_append_getElem hi).symm;have jF:(L.take i).length=i:=by simp;omega
  have xM:(L.take (i+1)).length=i+1:=by simp;omega
  refine S.skip<|S.seq<|S.block<|S.seq<|S.region rfl<|O.b8 (.p rfl) underlying25 di rfl rfl (show _=(((i):Nat):Int) by omega) (by first|assumption|exact aj.mono hg zE|exact aj.left zE|exact aj.left (aj.mono hg zE)) (h:=fun Z5 Ya DR D_=>?_);obtain ⟨ZG,ZN,rfl,Zc,Dh⟩:=bW.sh D_;refine O.op (.p rfl) (.bz isAgg31 aa rfl DR) ?_;refine O.aM (.p rfl) (.alloc (cs:=[.string ⟨#[]⟩,.slice none 0 0]) zeroValue31 rfl) ?_;rintro _ _ ⟨gU,rfl,rfl⟩;refine O.bu rfl (.cZ aa rfl rfl rfl rfl ai aW) ?_;refine O.nil<|S.cW ai fun g hs hm h5=>?_;replace hg:=Fr.aH hg hs;replace hR:=bp hR hm
  try replace h:=h.mono hs
  try replace h0:=h0.mono hs
  try replace hL:=hL.mono hs
  try replace DR:=DR.mono hs
  try replace Dh:=Dh.mono hs
  try replace D_:=D_.mono hs
  replace aX:=dH aX hm;clear hs hm;refine S.x3 (G:=en cD) (k' :=2) rfl ai fun ak eb=>?_;rw [← eb];refine S.bB (L:=[0,1,2,3,4,5,6,7,8,9]) bA aa ?_;refine af.q 1 rfl<|.quiet (.p rfl) rfl (fun _=>.fieldAddr eA rfl)<|.quiet (.p rfl) rfl (fun _=>.loadAt bL rfl h5 rfl) ?_;refine .quiet (.p rfl) rfl (fun _=>.fieldAddr fG rfl)<|.quiet (.p rfl) rfl (fun _=>.loadAt ew rfl (h5.drop 1) rfl) ?_;refine af.aB (.p rfl) aa rfl aa rfl rfl ((yg Dh iG.2.1 ah)) ?_;rintro _ _ ⟨a24,k_,rfl,rfl⟩
  try simp only [an,aq,au]
  refine .quiet (.p rfl) rfl (fun _=>.build (cs:=[_,_]) underlying31 rfl rfl rfl rfl rfl)<|af.ct (T:=(ag.cells 2)) (ys:=[_]) (.p rfl) aa underlying25 lp aC rfl rfl ⟨⟨rfl,rfl,by first|(simp;done)|(intro v hv;simp [Value.cells] at hv;rcases hv with rfl|rfl<;>rfl)|(refine List.forall_mem_cons.2 ⟨rfl,?_⟩;repeat (first|exact (fun _ h=>absurd h List.not_mem_nil)|refine List.forall_mem_cons.2 ⟨rfl,?_⟩))⟩,trivial⟩ aC (fun a26 iA=>?_);refine af.gT (.p rfl) aa (T:=(ag.cells 2)) underlying25 lp aC rfl rfl ai ai bJ bJ (fun a27 sX=>?_);refine af.q 1 rfl<|aI.nil<|S.inBlock<|S.cB (A:=(en cD).own [.string (str L[i].1),.slice a24 L[i].2.1.length k_] (L[i].1,L[i].2.1,())) (bs:=[cH (ef cD) 102 (.slice a24 L[i].2.1.length k_) L[i].2.1]) bf (fun m h=>en.mk (by have:=iG.1.2;omega) h) ?_;refine S.x4 (G:=en cD) (k' :=2) rfl ai ai ai ?_;rw [show (L[i].1,L[i].2.1,())=L[i] from rfl,eU];refine S.slot 3 (v' :=.slice a27 (L.take (i+1)).length sX) rfl (by rw [eb,jF,xM];rfl) ?_;simp only [List.length_singleton];rw [show ak.length+1=(L.take (i+1)).length by omega];refine S.region rfl<|O.op (.p rfl) (.add rfl rfl (IntWalk.i64_in _ ah))<|O.q 1 rfl<|O.nil ?_;exact S.ic aX (S.pw (ih (i+1) ((a27,sX)) ah ah))
 ·clear ih
  have hi:i=L.length:=by omega
  subst hi;rw [List.take_of_length_le ah];refine S.exit rfl<|S.seq<|S.region rfl<|O.q 2 rfl<|O.nil ?_;exact S.rt results31 rfl hR ⟨u.1,u.2,rfl,rfl⟩
theorem G2 {r:Fr} {va:Value} {xs:List (List UInt8)} (ha:aj ag.str r va xs) (hl:xs.length≤1000000000000) :
  ay prog 106 #[va] r [] (aL fun v U=>∃ a c,v=.slice a xs.length c∧U=[av ag.str 9 v xs]):=by
 refine ay.of (n:=8) _ rfl func106 rfl rfl rfl fun g hg R hR=>?_;have ha:=ha.mono hg;obtain ⟨a1,c1,rfl⟩:=ha.shape
 cases a1 with
 |none =>
  refine S.seq<|S.region rfl<|O.q 1 rfl<|O.nil<|S.seq<|S.seq<|S.region rfl<|O.q 1 rfl<|O.op (.p rfl) (.nw underlying53 rfl rfl)<|O.nil<|S.bx rfl<|S.seq<|S.region rfl<|O.q 1 rfl<|O.nil ?_;obtain ⟨rfl,_,rfl⟩:=aj.x_ aC ha;refine S.gh (T:=ag.str) (e:=9) ?_;refine S.ret results106 rfl fun w hw=>hR _ _ w ?_ hw;exact ⟨none,0,rfl,rfl⟩
 |some a1 =>
  refine S.seq<|S.region rfl<|O.q 1 rfl<|O.nil<|S.seq<|S.seq<|S.region rfl<|O.q 1 rfl<|O.op (.p rfl) (.nw underlying53 rfl rfl)<|O.nil<|S.aQ rfl<|S.skip<|S.seq<|S.region rfl<|O.aM (.p rfl) (.ct (T:=ag.str) (ys:=[]) underlying53 gY aC rfl rfl trivial aC) ?_;rintro _ _ ⟨a5,dP,rfl,rfl⟩;refine O.q 1 rfl<|O.aM (.p rfl) (.nW (T:=ag.str) Fb underlying53 gY aC rfl rfl ai (by first|assumption|exact aj.mono hg zE|exact aj.left zE|exact aj.left (aj.mono hg zE)) bJ bJ) ?_;rintro _ _ ⟨a7,iB,rfl,rfl⟩;refine O.q 1 rfl<|O.nil<|S.ret results106 rfl fun w hw=>hR _ _ w ?_ hw;exact ⟨a7,iB,by simp,by simp⟩
end Go.Proofs.YtojafegjlahajaaGreatDoor
