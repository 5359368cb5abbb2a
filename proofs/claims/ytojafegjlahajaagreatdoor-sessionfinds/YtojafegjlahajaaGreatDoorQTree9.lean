/- Texts of this proof. -/
import Derived.Test.YtojafegjlahajaaGreatDoorQSpJoin3
import Derived.Test.YtojafegjlahajaaGreatDoorQTree2
open Go Go.Sp Go.Proofs.Tryz
set_option maxRecDepth 100000
set_option maxHeartbeats 1000000
attribute [local irreducible] obj Own av
namespace Go.Proofs.YtojafegjlahajaaGreatDoor
def mP (l:List aP):Option (List aP):=if gI l=true then some (jl l) else none
theorem Mg {h:Fr}:∀ {ak:List (List Value)} {xs:List aP},b5 (bO.rel h) ak xs→∃ ps:List hU,ps.map (·.1)=ak∧ps.map (·.2)=xs∧∀ q∈ps,bO.rel h q.1 q.2
 |[],[],_=>⟨[],rfl,rfl,fun _ h=>by cases h⟩
 |c::ak,x::xs,⟨h1,h2⟩=>by
  obtain ⟨ps,e1,e2,ck⟩:=Mg h2;exact ⟨(c,x)::ps,by rw [← e1];rfl,by rw [← e2];rfl,fun q hq=>by
   rcases List.mem_cons.1 hq with rfl|hq
   ·exact h1
   ·exact ck q hq⟩
theorem VM {x:aP} (h:ej x=true):mv (cn x)=some x:=KY.2 ⟨h,rfl⟩
theorem Xb {r:Fr} {b:Nat} {xs:List aP} (hrow:rB r b xs) (ho:∀ x∈xs,ej x=true) (hl:xs.length≤100000000000) :
  ay prog 242 #[.pointer (some ⟨b,0,none⟩)] r [] (aL fun v U=>∃ a c,v=.slice a xs.length c∧U=[cD (dr b8) 102 (.slice a xs.length c) xs]):=by
 obtain ⟨qf,sA,i_,pn⟩:=hrow;refine ay.of (n:=32) _ rfl func242 rfl rfl rfl fun g hg R hR=>?_;have i_:=i_.mono hg;have pn:=pn.mono hg;refine S.seq<|S.region rfl<|O.q 1 rfl<|O.nil<|S.seq<|S.region rfl<|O.q 1 rfl<|O.nil<|S.seq<|S.seq<|S.q6 (dr b8) 102 ?_;refine S.region rfl<|O.q 1 rfl<|O.op (.p rfl) (.nilCheck rfl)<|O.op (.p rfl) (.fieldAddr jj rfl)<|O.op (.p rfl) (.loadAt ji rfl i_ rfl) ?_;refine O.op (.p rfl) (.len rfl underlying216 rfl)<|O.q 1 rfl<|O.nil<|S.block<|S.jO (ι:=Nat) (dJ:=Option Addr × Nat) (fun i s=>i≤xs.length) (fun i s=>[(13,.int .i64 (i:Int)),(3,.slice s.1 (xs.take i).length s.2)]) [(11,_),(12,_)] (fun i s=>[cD (dr b8) 102 (.slice s.1 (xs.take i).length s.2) (xs.take i)]) (fun i s=>xs.length - i) (0) ((none,0)) bL (.cons rfl (.cons rfl (.nil))) (.cons rfl (.cons rfl (.nil))) rfl fun i s hx ih=>?_;have bh:=cH (g:=g);refine S.seq<|S.region rfl<|O.op (.p rfl) (.lss rfl rfl)<|O.nil (S.seq ?_)
 first|refine S.cm rfl (fun e_=>?_) (fun e_=>?_)|refine S.b_ rfl (fun e_=>?_) (fun e_=>?_)
 ·have hi:i<xs.length:=by omega
  have hok:=ho _ (List.getElem_mem hi);have lz:=A0 hok;have aae:(xs.take i).length=i:=by simp;omega
  refine S.skip<|S.seq<|S.block<|S.seq<|S.region rfl<|O.bR (.p rfl) underlying216 gC rfl rfl rfl (by first|assumption|exact aj.mono hg zE|exact aj.left zE|exact aj.left (aj.mono hg zE)) (h:=fun yj wO gW kZ=>?_);obtain ⟨RH,RL,RP,RU,RZ,R4,R8,Sb,rfl,Jf,DD⟩:=bO.sh kZ;refine O.op (.p rfl) (.bE isAgg220 aa rfl gW) ?_;refine O.aN (.p rfl) (.alloc (cs:=[.string ⟨#[]⟩,.int .i64 0,.int .i64 0,.slice none 0 0,.bool false,.slice none 0 0,.slice none 0 0,.slice none 0 0]) zeroValue220 rfl) ?_;rintro _ _ ⟨iN,rfl,rfl⟩;refine O.bB rfl (.c9 aa rfl rfl rfl rfl ai aX) ?_;refine O.nil<|S.seq<|S.dx (b:=iN) (cs' :=[.string (str xs[i].1),.int .i64 xs[i].2.1,.int .i64 xs[i].2.2.1,.slice RH xs[i].2.2.2.1.length RZ,.bool xs[i].2.2.2.2.1,.slice RL xs[i].2.2.2.2.2.1.length R4,.slice RP xs[i].2.2.2.2.2.2.1.length R8,.slice RU (cn xs[i]).length Sb]) ai rfl ?_;refine S.de ai fun g hs hm eb=>?_;replace hg:=Fr.aI hg hs;replace hR:=bu hR hm
  try replace i_:=i_.mono hs
  try replace pn:=pn.mono hs
  try replace gW:=gW.mono hs
  try replace DD:=DD.mono hs
  try replace kZ:=kZ.mono hs
  try replace Jf:=Jf.mono hs
  replace bh:=dQ bh hm;clear hs hm;refine S.region rfl<|O.op (.p rfl) (.fieldAddr zD rfl)<|O.op (.p rfl) (.loadAt bl rfl (eb.drop 7) rfl) ?_;refine O.aC (.p rfl) rfl aa rfl rfl ((Vd (VM hok) DD ah)) ?_;rintro _ _ ⟨a3,c3,a5,dS,a6,dH,rfl,rfl⟩
  try simp only [an,aq,au]
  refine O.q 3 rfl<|O.aN (.p rfl) (.alloc (cs:=[.string ⟨#[]⟩,.int .i64 0,.int .i64 0,.slice none 0 0,.bool false,.slice none 0 0,.slice none 0 0]) zeroValue102 rfl) ?_;rintro _ _ ⟨fU,rfl,rfl⟩;refine O.bB rfl (.c9 aa rfl rfl rfl rfl ai aX) ?_;refine O.q 1 rfl<|O.nil<|S.seq<|S.region rfl<|O.q 1 rfl<|O.op (.p rfl) (.eql rfl rfl)<|O.sT 24 rfl aB ?_;refine O.kQ (.p rfl) rfl aa rfl rfl (qj _) (fun ch ax w hX hW=>by (exact absurd hX.1 bL)) ?_;rintro _ _ ⟨ZB,rfl,rfl⟩
  try simp only [an,aq,au]
  refine O.nil<|S.ug (k' :=7) rfl ai fun ak ec=>?_;rw [← ec];refine S.region rfl<|O.q 1 rfl<|O.op (.p rfl) (.gZ (news:=[_,_,_,_,_,_,_]) isAgg102) ?_;refine O.aN (.p rfl) (.cA (T:=(ag.cells 7)) (ys:=[_]) underlying22 wS aB rfl rfl ⟨⟨rfl,rfl,by first|(simp;done)|(intro v hv;simp [Value.cells] at hv;rcases hv with rfl|rfl<;>rfl)|(refine List.forall_mem_cons.2 ⟨rfl,?_⟩;repeat (first|exact (fun _ h=>absurd h List.not_mem_nil)|refine List.forall_mem_cons.2 ⟨rfl,?_⟩))⟩,trivial⟩ aB) ?_;rintro _ _ ⟨a28,s8,rfl,rfl⟩;refine O.aN (.p rfl) (.gN (T:=(ag.cells 7)) underlying22 wS aB rfl rfl ai ai bD bD) ?_;rintro _ _ ⟨a29,y_,rfl,rfl⟩;refine O.q 1 rfl<|O.nil<|S.inBlock<|S.region rfl<|O.op (.p rfl) (.add rfl rfl (IntWalk.i64_in _ ah))<|O.q 1 rfl<|O.nil<|S.ct (A:=(dr b8).own (uw xs[i] (.slice a3 xs[i].2.2.2.1.length c3) (.slice a5 xs[i].2.2.2.2.2.1.length dS) (.slice a6 xs[i].2.2.2.2.2.2.1.length dH)) xs[i]) (bs:=yp xs[i] (.slice a3 xs[i].2.2.2.1.length c3) (.slice a5 xs[i].2.2.2.2.2.1.length dS) (.slice a6 xs[i].2.2.2.2.2.2.1.length dH)) aW (fun m h=>KX hok h) ?_;refine S.x5 (G:=dr b8) (k' :=7) rfl ai ai ai ?_;rw [show xs.take i++[xs[i]]=xs.take (i+1) from (List.take_succ_eq_append_getElem hi).symm];simp only [List.length_singleton];rw [show ak.length+1=(xs.take (i+1)).length from by rw [ec];simp;omega]
  exact S.iA bh (S.pw (ih (i+1) ((a29,y_)) ah ah))
 ·clear ih
  have hi:i=xs.length:=by omega
  subst hi;rw [List.take_length];refine S.exit rfl<|S.seq<|S.region rfl<|O.q 2 rfl<|O.nil ?_;exact S.rt results242 rfl hR ⟨s.1,s.2,rfl,rfl⟩
theorem Sm {ss:List (List aP)} {i:Nat} (h:gI (ss.take i).flatten=false):mP ss.flatten=none:=by
 have:gI ss.flatten≠true:=fun q=>by
  rw [show gI (ss.take i).flatten=true from Uf q fun x hx=>by
   obtain ⟨l,h1,h2⟩:=List.mem_flatten.1 hx;exact List.mem_flatten.2 ⟨l,List.mem_of_mem_take h1,h2⟩] at h
  cases h
 rw [mP,if_neg this]
def BL (l:List aP) (v:Value) (U:List az):Prop:=∃ o a c,mP l=some o∧v=.slice a o.length c∧U=[cD (dr b8) 102 (.slice a o.length c) o]
theorem tn {ss:List (List aP)} {i:Nat} (hi:i<ss.length):(ss.take (i+1)).flatten=(ss.take i).flatten++ss[i]:=by
 rw [List.take_succ_eq_append_getElem hi,List.flatten_append];simp
theorem Oy {ss:List (List aP)} (i:Nat):(ss.take i).flatten.length≤ss.flatten.length:=by
 have h:=congrArg (fun l=>(List.flatten l).length) (List.take_append_drop i ss);simp only [List.flatten_append,List.length_append] at h
 omega
theorem SZ (l:List aP):(jl l).length≤l.length:=by
 unfold jl r_ qC;exact Nat.le_trans (List.length_filter_le ..) (Nat.le_trans (Cu ..) (Nat.le_of_eq (W7 ..)))
theorem Lx {r:Fr} {p:Nat} {va:Value} {ss:List (List aP)} (hp:At r ⟨p,0,none⟩ [va]) (ha:aj (ag.slice cv) r va ss) (hl:ss.flatten.length≤100000000000) :
  ay prog 240 (#[]++#[]++#[.pointer (some ⟨p,0,none⟩)]) r [] (eN (fun v U=>BL ss.flatten v U) (fun ch U=>∃ z,ch=o4 44 z∧(mP ss.flatten=none∧z=4)∧U=[])):=by
 have har:=ha;refine ay.of (n:=25) [.pointer (some ⟨p,0,none⟩)] rfl func240 rfl rfl rfl fun g hg R hR=>?_;have hp:=hp.mono hg;have ha:=ha.mono hg;have hbd:=ha.bound;obtain ⟨a1,c1,rfl⟩:=ha.shape;refine S.seq<|S.region rfl<|O.q 1 rfl<|O.nil<|S.seq<|S.region rfl<|O.op (.p rfl) (.build (cs:=[_]) underlying306 rfl rfl rfl rfl rfl)<|O.aN (.p rfl) (.box (cs:=[_]) rfl rfl) ?_;rintro _ _ ⟨fU,rfl,rfl⟩;refine O.q 1 rfl<|O.nil<|S.seq<|S.seq<|S.conv (B:=obj fU 306 [.slice none 0 0]) (C:=ff r 306 220 5 fU (ss.take 0).flatten) ai (fun m x=>⟨m,Fr.bY _,ff.nil x⟩) ?_;refine S.region rfl<|O.op (.p rfl) (.loadAt Ov rfl hp rfl) ?_;refine O.op (.p rfl) (.len rfl underlying169 rfl)<|O.q 1 rfl<|O.nil<|S.block<|S.eM (ι:=Nat) (fun i=>i≤ss.length∧gI (ss.take i).flatten=true) (fun i=>[(9,.int .i64 (i:Int))]) [(2,_),(7,_),(8,_)] (fun i=>[ff r 306 220 5 fU (ss.take i).flatten]) (fun i=>ss.length - i) (0) (by exact ⟨by simp,rfl⟩) (.cons rfl (.nil)) (.cons rfl (.cons rfl (.cons rfl (.nil)))) rfl fun i hx ih=>?_;have bh:=cH (g:=g);obtain ⟨hx1,hx2⟩:=hx;refine S.seq<|S.region rfl<|O.op (.p rfl) (.lss rfl rfl)<|O.nil (S.seq ?_)
 first|refine S.cm rfl (fun h10=>?_) (fun h10=>?_)|refine S.b_ rfl (fun h10=>?_) (fun h10=>?_)
 ·have hi:i<ss.length:=by omega
  have hst:=tn hi;have p7:=Oy (ss:=ss) (i+1);have vz:(ss.take i).flatten.length+ss[i].length≤100000000000:=by rw [hst,List.length_append] at p7;omega
  refine S.skip<|S.seq<|S.block<|S.seq<|S.region rfl<|O.ib (.p rfl) underlying169 WZ rfl rfl rfl har hg (h:=fun UC NN D7 Jk=>?_);have Jd:=ag.rel.mono Jk hg;obtain ⟨v11,rfl,Dv⟩:=Jk;refine O.op (.p rfl) (.loadAt dO rfl D7 rfl) ?_;refine O.q 1 rfl<|O.nil<|S.region rfl<|O.q 1 rfl<|O.op (.p rfl) (.nilCheck rfl)<|O.op (.p rfl) (.aH qG rfl)<|O.q 1 rfl<|O.qz (.p rfl) rfl aa rfl rfl ai ((Lj Dv hx2 vz).sub hg) (fun ch ax w hX hW=>by (obtain ⟨hb,rfl,rfl⟩:=hX;exact hR _ _ w ⟨4,rfl,⟨Sm (i:=i+1) (by rw [hst];exact hb),rfl⟩,rfl⟩ hW.qD)) ?_;rintro _ _ ⟨hone,rfl,rfl⟩
  try simp only [an,aq,au]
  refine O.nil (S.inBlock ?_);rw [← hst] at hone ⊢;refine S.region rfl<|O.op (.p rfl) (.add rfl rfl (IntWalk.i64_in _ ah))<|O.q 1 rfl<|O.nil ?_;exact S.dD (ih (i+1) (by exact ⟨by omega,hone⟩) ah)
 ·clear ih
  have hi:i=ss.length:=by omega
  subst hi;rw [List.take_length] at hx2 ⊢;generalize hxs:ss.flatten=xs at hx2 hl ⊢;have hok:=q9 hx2;have ow:mP xs=some (jl xs):=by rw [mP,if_pos hx2]
  refine S.open (A:=ff r 306 220 5 fU xs) ai (fun m x=>x) fun q=>?_;simp only [List.cons_append,List.nil_append];refine S.ep (A:=bX (lN r 5) q.2 xs) ai fun g hs hm ⟨_,x',s'⟩=>?_;have xk:=(fun s x=>bX.sZ (A:=lN r 5) (fun cs a m' z w=>lN.rel (Fr.aI hg hs) w z) x s) s' x';clear x' s';replace hg:=Fr.aI hg hs;replace hR:=bu hR hm
  try replace hp:=hp.mono hs
  try replace ha:=ha.mono hs
  replace bh:=dQ bh hm;clear hs hm;obtain ⟨ps,hp1,hp2,hps⟩:=Mg xk;have nN:xs.length=ps.length:=by rw [← hp2,List.length_map]
  rw [← hp1,nN];have tU:∀ p∈ps,ej p.2=true:=fun p hp=>hok _ (by rw [← hp2];exact List.mem_map.2 ⟨p,hp,rfl⟩);refine S.exit rfl<|S.seq<|S.region rfl<|O.q 1 rfl<|O.eO (.p rfl) rfl aa rfl rfl aW (X5 hps tU ah) ?_;rintro v20 _ ⟨k7,a20,y9,rfl,QV,Q3,rfl⟩
  try simp only [an,aq,au]
  refine O.nil (S.seq ?_);have hjm:k7.map (·.2)=jl xs:=by rw [QV,hp2]
  have P6:∀ x∈jl xs,ej x=true:=fun x hx=>hok x (S3 hok x hx);have hjl:k7.length=(jl xs).length:=by rw [← hjm,List.length_map]
  have hjb:(jl xs).length≤100000000000:=Nat.le_trans (SZ xs) hl;refine S.ep (A:=av (ag.cells 8) 220 (.slice a20 k7.length y9) (k7.map (·.1))) ai fun g hs hm ⟨_,x',s'⟩=>?_;have hqi:=(fun s x=>aj.kL (T:=bO) ((av.arr x).mono s) (ua fun p hp=>ag.mono bO hs (Q3 p hp)) rfl) s' x';clear x' s';replace hg:=Fr.aI hg hs;replace hR:=bu hR hm
  try replace hp:=hp.mono hs
  try replace ha:=ha.mono hs
  try replace xk:=xk.mono hs
  replace bh:=dQ bh hm;clear hs hm;refine S.de ai fun g hs hm eV=>?_;replace hg:=Fr.aI hg hs;replace hR:=bu hR hm
  try replace hp:=hp.mono hs
  try replace ha:=ha.mono hs
  try replace xk:=xk.mono hs
  try replace hqi:=hqi.mono hs
  try replace hqi:=hqi.mono hs
  replace bh:=dQ bh hm;clear hs hm;have hrow:rB g.h fU (jl xs):=⟨a20,y9,by rw [← hjl];exact eV,by rw [← hjl,← hjm];exact hqi⟩;refine S.region rfl<|O.q 1 rfl<|O.op (.p rfl) (.nilCheck rfl)<|O.op (.p rfl) (.aH qG rfl)<|O.aC (.p rfl) rfl aa rfl rfl ((Xb hrow P6 hjb)) ?_;rintro _ _ ⟨a24,k9,rfl,rfl⟩
  try simp only [an,aq,au]
  refine O.q 1 rfl<|O.nil ?_;exact S.rt results240 rfl hR ⟨jl xs,a24,k9,by rw [hxs];exact ow,rfl,rfl⟩
def EY (l:List aP) (v:Value) (U:List az):Prop:=(∃ u,BL l u U∧v=.tuple #[u,.int .i64 0])∨(mP l=none∧v=.tuple #[.slice none 0 0,.int .i64 4]∧U=[])
theorem Li {r:Fr} {first cap:Array Value} {l:List aP} (con:ay prog 240 (first++#[]++cap) r [] (eN (fun v U=>BL l v U) (fun ch U=>∃ z,ch=o4 44 z∧(mP l=none∧z=4)∧U=[]))) (h1:(Value.func (.func 240) first cap).oneCell' =true:=by rfl) :
  ay prog 239 #[.func (.func 240) first cap] r [] (aL fun v U=>EY l v U) :=
 (XN aa h1 (fun _ _ h=>by obtain ⟨l,a,c,_,rfl,_⟩:=h;rfl) con).mono (aL.imp fun v U h=>by
  rcases h with ⟨u,h2,h3⟩|⟨z,⟨h2,rfl⟩,h3,h4⟩
  ·exact .inl ⟨u,h2,h3⟩
  ·exact .inr ⟨h2,h4,h3⟩)
theorem S7 {l o:List aP} {v:Value} {U:List az} (e:mP l=some o) (h:EY l v U):∃ a c,v=.tuple #[.slice a o.length c,.int .i64 0]∧U=[cD (dr b8) 102 (.slice a o.length c) o]:=by
 rcases h with ⟨_,⟨y,a,c,h1,rfl,rfl⟩,rfl⟩|⟨h1,_⟩
 ·rw [e] at h1;obtain rfl:=Option.some.inj h1;exact ⟨a,c,rfl,rfl⟩
 ·rw [e] at h1;cases h1
theorem S6 {l:List aP} {v:Value} {U:List az} (e:mP l=none) (h:EY l v U):v=.tuple #[.slice none 0 0,.int .i64 4]∧U=[]:=by
 rcases h with ⟨_,⟨y,a,c,h1,_⟩,_⟩|⟨_,h1,h2⟩
 ·rw [e] at h1;cases h1
 ·exact ⟨h1,h2⟩
def qZ (l:List aP):List aP:=(mP l).getD []
def xW (l:List aP):Int:=if (mP l).isSome then 0 else 4
theorem Wt {r:Fr} {va:Value} {ss:List (List aP)} (ha:aj (ag.slice cv) r va ss) (hl:ss.flatten.length≤100000000000):ay prog 161 #[va] r [] (aL fun v U=>∃ a c,v=.tuple #[.slice a (qZ ss.flatten).length c,.int .i64 (xW ss.flatten)]∧U=[cD (dr b8) 102 (.slice a (qZ ss.flatten).length c) (qZ ss.flatten)]):=by
 refine ay.of (n:=8) _ rfl func161 rfl rfl rfl fun g hg R hR=>?_;have ha:=ha.mono hg;obtain ⟨a1,c1,rfl⟩:=ha.shape
 cases e:mP ss.flatten with
 |some x =>
  have e1:qZ ss.flatten=x:=by simp [qZ,e]
  have e2:xW ss.flatten=0:=by simp [xW,e]
  rw [e1,e2] at hR;refine S.seq<|S.region rfl<|O.aN (.p rfl) (.box (cs:=[_]) rfl rfl) ?_;rintro _ _ ⟨b1,rfl,rfl⟩;refine O.de ai fun g hs hm kV=>?_;replace hg:=Fr.aI hg hs;replace hR:=bu hR hm
  try replace ha:=ha.mono hs
  clear hs hm;refine O.q 2 rfl<|O.nil<|S.seq<|S.region rfl<|O.op (.p rfl) (.jb rfl rfl)<|O.aC (.p rfl) rfl aa rfl rfl (((Li (Lx kV ha hl)).mono (aL.imp fun _ _ h=>S7 e h))) ?_;rintro _ _ ⟨a5,dS,rfl,rfl⟩
  try simp only [an,aq,au]
  refine O.q 4 rfl<|O.nil<|S.mW results161 rfl rfl fun w hw=>Holds.end_ hR hw ?_;exact pk ⟨a5,dS,rfl,rfl⟩
 |none =>
  have e1:qZ ss.flatten=[]:=by simp [qZ,e]
  have e2:xW ss.flatten=4:=by simp [xW,e]
  rw [e1,e2] at hR;refine S.seq<|S.region rfl<|O.aN (.p rfl) (.box (cs:=[_]) rfl rfl) ?_;rintro _ _ ⟨b1,rfl,rfl⟩;refine O.de ai fun g hs hm kV=>?_;replace hg:=Fr.aI hg hs;replace hR:=bu hR hm
  try replace ha:=ha.mono hs
  clear hs hm;refine O.q 2 rfl<|O.nil<|S.seq<|S.region rfl<|O.op (.p rfl) (.jb rfl rfl)<|O.aC (.p rfl) rfl aa rfl rfl (((Li (Lx kV ha hl)).mono (aL.imp fun _ _ h=>S6 e h))) ?_;rintro _ _ ⟨rfl,rfl⟩
  try simp only [an,aq,au]
  refine O.q 4 rfl<|O.nil<|S.q6 (dr b8) 102 ?_;refine S.mW results161 rfl rfl fun w hw=>Holds.end_ hR hw ?_;exact pk ⟨none,0,rfl,rfl⟩
theorem S0 {a:List aP} (h:fJ a):jl a=a:=(SY (q9 h.1) fun x=>by simp).trans (S2 h)
theorem S4 {a:List aP} (h:fJ a):qZ [a].flatten=a:=by
 have:[a].flatten=a:=by simp
 rw [this,qZ,mP,if_pos h.1,S0 h];rfl
theorem yh {r:Fr} {va:Value} {xs:List aP} (ha:aj cv r va xs) (h:fJ xs) (hl:xs.length≤100000000000) :
  ay prog 92 #[va] r [] (aL fun v U=>∃ a c,v=.slice a xs.length c∧U=[cD (dr b8) 102 (.slice a xs.length c) xs]):=by
 obtain ⟨a1,c1,rfl⟩:=ha.shape;refine ay.of (n:=10) _ rfl func92 rfl rfl rfl fun g hg R hR=>?_;have ha:=ha.mono hg;have e:=S4 h;refine S.seq<|S.region rfl<|O.q 1 rfl<|O.nil<|S.seq<|S.region rfl<|O.q 1 rfl<|O.aN (.p rfl) (.cA (T:=ag.cells 1) (ys:=[[.slice a1 xs.length c1]]) underlying169 Oe aB rfl rfl ⟨⟨rfl,rfl,by first|(simp;done)|(intro v hv;simp [Value.cells] at hv;rcases hv with rfl|rfl<;>rfl)|(refine List.forall_mem_cons.2 ⟨rfl,?_⟩;repeat (first|exact (fun _ h=>absurd h List.not_mem_nil)|refine List.forall_mem_cons.2 ⟨rfl,?_⟩))⟩,trivial⟩ aB) ?_;rintro _ _ ⟨a5,dS,rfl,rfl⟩;refine O.fo ai fun g hs hm Pd=>?_;replace hg:=Fr.aI hg hs;replace hR:=bu hR hm
 try replace ha:=ha.mono hs
 clear hs hm;refine O.aC (.p rfl) rfl aa rfl rfl ((Wt (ss:=[xs]) (aj.kL Pd ⟨⟨_,rfl,ha⟩,trivial⟩ rfl) b9)) ?_;rintro _ _ ⟨a6,dH,rfl,rfl⟩
 try simp only [an,aq,au]
 rw [e];refine O.q 4 rfl<|O.nil<|S.seq<|S.region rfl<|O.q 2 rfl<|O.nil ?_;exact S.rt results92 rfl hR ⟨a6,dH,rfl,rfl⟩
theorem Bk {r:Fr} {va:Value} {n:List UInt8} {z:Int} (ha:aj ag.u8 r va n) (hz:cK z) (hH:At r ⟨0,0,none⟩ (bW ev)) (hK:At r ⟨1,0,none⟩ (bW gq)) (hl:n.length≤1000000000000) :
  ay prog 24 #[.int .i64 z,va] r [] (aL fun v U=>∃ a c,v=.slice a (er z n).length c∧U=[av ag.u8 5 (.slice a (er z n).length c) (er z n)]):=by
 obtain ⟨a1,c1,rfl⟩:=ha.shape;refine ay.of (n:=22) _ rfl func24 rfl rfl rfl fun g hg R hR=>?_;have ha:=ha.mono hg;have hH:=hH.mono hg;have hK:=hK.mono hg
 by_cases h1:0≤z∧z<4
 ·by_cases h2:n.length=64
  ·have e:er z n=lK (4::Sp.byteOf z::n):=by unfold er;rw [if_pos ⟨h1.1,h1.2,h2⟩]
   have e2:(er z n).length=64:=by rw [e,qi]
   refine S.seq<|S.region rfl<|O.q 1 rfl<|O.nil<|S.seq<|S.seq<|S.region rfl<|O.q 1 rfl<|O.op (.p rfl) (.lss rfl rfl)<|O.aM 6 rfl (by exact decide_eq_false ah) ?_;refine O.q 2 rfl<|O.op (.g rfl rfl) (.geq rfl rfl)<|O.aM 9 rfl (by exact decide_eq_false ah) ?_;refine O.q 3 rfl<|O.op (.g rfl rfl) (.len rfl underlying24 rfl)<|O.op (.g rfl rfl) (.neq rfl rfl)<|O.aM 14 rfl (by exact decide_eq_false ah) ?_;refine O.q 1 rfl<|O.nil<|S.aQ rfl<|S.skip<|S.seq<|S.region rfl<|O.q 1 rfl<|O.op (.p rfl) (.lU underlying3 underlying5 rfl)<|O.slot 17 (v' :=bK (Sp.byteOf z)) rfl (by exact L7 z) ?_;refine O.aN (.p rfl) (.cA (T:=ag.u8) (ys:=[4,Sp.byteOf z]) underlying24 eT aB rfl rfl ⟨rfl,rfl,trivial⟩ aB) ?_;rintro _ _ ⟨jY,j3,rfl,rfl⟩;refine O.fo ai fun g hs hm Dx=>?_;replace hg:=Fr.aI hg hs;replace hR:=bu hR hm
   try replace ha:=ha.mono hs
   try replace hH:=hH.mono hs
   try replace hK:=hK.mono hs
   clear hs hm;refine O.q 1 rfl<|O.aN (.p rfl) (.cA (T:=ag.cells 1) (ys:=[[.slice jY 2 j3],[.slice a1 n.length c1]]) underlying109 iu aB rfl rfl ⟨⟨rfl,rfl,by first|(simp;done)|(intro v hv;simp [Value.cells] at hv;rcases hv with rfl|rfl<;>rfl)|(refine List.forall_mem_cons.2 ⟨rfl,?_⟩;repeat (first|exact (fun _ h=>absurd h List.not_mem_nil)|refine List.forall_mem_cons.2 ⟨rfl,?_⟩))⟩,⟨rfl,rfl,by first|(simp;done)|(intro v hv;simp [Value.cells] at hv;rcases hv with rfl|rfl<;>rfl)|(refine List.forall_mem_cons.2 ⟨rfl,?_⟩;repeat (first|exact (fun _ h=>absurd h List.not_mem_nil)|refine List.forall_mem_cons.2 ⟨rfl,?_⟩))⟩,trivial⟩ aB) ?_;rintro _ _ ⟨a20,y9,rfl,rfl⟩;refine O.fo ai fun g hs hm O7=>?_;replace hg:=Fr.aI hg hs;replace hR:=bu hR hm
   try replace ha:=ha.mono hs
   try replace hH:=hH.mono hs
   try replace hK:=hK.mono hs
   try replace Dx:=Dx.mono hs
   clear hs hm;refine O.aC (.p rfl) rfl aa rfl rfl ((yz (ps:=[[4,Sp.byteOf z],n]) (aj.kL O7 ⟨⟨_,rfl,Dx⟩,⟨_,rfl,ha⟩,trivial⟩ rfl) hH hK b9)) ?_;rintro _ _ ⟨a21,s6,rfl,rfl⟩
   try simp only [an,aq,au]
   refine O.q 1 rfl<|O.nil<|S.jd (T:=ag.u8) (e:=5) (v' :=.slice a21 (er z n).length s6) (xs' :=er z n) ai (by rw [e2]) (by rw [e];simp) ?_;exact S.rt results24 rfl hR ⟨a21,s6,by rw [e2],rfl⟩
  ·have e:er z n=[]:=by unfold er;rw [if_neg fun q=>h2 q.2.2]
   refine S.seq<|S.region rfl<|O.q 1 rfl<|O.nil<|S.seq<|S.seq<|S.region rfl<|O.q 1 rfl<|O.op (.p rfl) (.lss rfl rfl)<|O.aM 6 rfl (by exact decide_eq_false ah) ?_;refine O.q 2 rfl<|O.op (.g rfl rfl) (.geq rfl rfl)<|O.aM 9 rfl (by exact decide_eq_false ah) ?_;refine O.q 3 rfl<|O.op (.g rfl rfl) (.len rfl underlying24 rfl)<|O.op (.g rfl rfl) (.neq rfl rfl)<|O.sT 14 rfl (by exact decide_eq_true ah) ?_;refine O.q 1 rfl<|O.nil<|S.bx rfl<|S.seq<|S.region rfl<|O.q 1 rfl<|O.nil<|S.gd (T:=ag.u8) (e:=5) ?_;refine S.jd (T:=ag.u8) (e:=5) (v' :=.slice none (er z n).length 0) (xs' :=er z n) ai (by rw [e];rfl) e.symm ?_;exact S.rt results24 rfl hR ⟨none,0,by rw [e];rfl,rfl⟩
 ·have e:er z n=[]:=by unfold er;rw [if_neg fun q=>h1 ⟨q.1,q.2.1⟩]
  by_cases h3:z<0
  ·
   refine S.seq<|S.region rfl<|O.q 1 rfl<|O.nil<|S.seq<|S.seq<|S.region rfl<|O.q 1 rfl<|O.op (.p rfl) (.lss rfl rfl)<|O.sT 6 rfl (by exact decide_eq_true h3) ?_;refine O.q 9 rfl<|O.nil<|S.bx rfl<|S.seq<|S.region rfl<|O.q 1 rfl<|O.nil<|S.gd (T:=ag.u8) (e:=5) ?_;refine S.jd (T:=ag.u8) (e:=5) (v' :=.slice none (er z n).length 0) (xs' :=er z n) ai (by rw [e];rfl) e.symm ?_;exact S.rt results24 rfl hR ⟨none,0,by rw [e];rfl,rfl⟩
  ·
   refine S.seq<|S.region rfl<|O.q 1 rfl<|O.nil<|S.seq<|S.seq<|S.region rfl<|O.q 1 rfl<|O.op (.p rfl) (.lss rfl rfl)<|O.aM 6 rfl (by exact decide_eq_false h3) ?_;refine O.q 2 rfl<|O.op (.g rfl rfl) (.geq rfl rfl)<|O.sT 9 rfl (by exact decide_eq_true ah) ?_;refine O.q 6 rfl<|O.nil<|S.bx rfl<|S.seq<|S.region rfl<|O.q 1 rfl<|O.nil<|S.gd (T:=ag.u8) (e:=5) ?_;refine S.jd (T:=ag.u8) (e:=5) (v' :=.slice none (er z n).length 0) (xs' :=er z n) ai (by rw [e];rfl) e.symm ?_;exact S.rt results24 rfl hR ⟨none,0,by rw [e];rfl,rfl⟩
theorem Ke {r:Fr} {s:Nat} (hs:s<4):ay prog 29 #[.int .i64 (s:Int)] r [] (aL fun v U=>∃ b,v=.pointer (some ⟨b,0,none⟩)∧U=[aY aF Fr.emp b s []]):=by
 refine ay.of (n:=13) _ rfl func29 rfl rfl rfl fun g hg R hR=>?_;refine S.seq<|S.region rfl<|O.q 1 rfl<|O.nil<|S.seq<|S.seq<|S.region rfl<|O.q 1 rfl<|O.op (.p rfl) (.lss rfl rfl)<|O.aM 4 rfl (by exact decide_eq_false ah) ?_;refine O.q 2 rfl<|O.op (.g rfl rfl) (.geq rfl rfl)<|O.aM 7 rfl (by exact decide_eq_false ah) ?_;refine O.q 1 rfl<|O.nil<|S.aQ rfl<|S.skip<|S.seq<|S.region rfl<|O.q 1 rfl<|O.aN (.p rfl) (.pK (enc:=encS)) ?_;rintro _ _ ⟨wE,rfl,rfl⟩;refine O.op (.p rfl) (.build (cs:=[_,_,_,_]) underlying77 rfl rfl rfl rfl rfl)<|O.aN (.p rfl) (.box (cs:=[_,_,_,_]) rfl rfl) ?_;rintro _ _ ⟨nt,rfl,rfl⟩;refine O.q 1 rfl<|O.nil<|S.ct (A:=aY aF Fr.emp nt s []) (bs:=[obj nt 77 [.slice none 0 0,.slice none 0 0,.int .i64 (s:Int),.map (some wE)],cu encS wE [] 0]) aW (fun m h=>Xz h) ?_;exact S.rt results29 rfl hR ⟨nt,rfl,rfl⟩
attribute [local irreducible] bN bw
structure fR (r d:Fr) (s:Nat) (L:List aD):Prop where
 hd:d.sub r
 ok:gu s L
 small:L.length≤10000000∧∀ y∈L,y.2.1.length≤10000000
 hH:At r ⟨0,0,none⟩ (bW ev)
 hK:At r ⟨1,0,none⟩ (bW gq)
theorem fR.mono {r r' d:Fr} {s:Nat} {L:List aD} (h:fR r d s L) (e:r.sub r'):fR r' d s L:=⟨Fr.aI h.hd e,h.ok,h.small,h.hH.mono e,h.hK.mono e⟩
def Mo (d:Fr) (b s:Nat) (L:List aD) (x:ed) (v:Value) (U:List az):Prop:=∃ a1 k1 a2 k2 a3 bk,v=.agg #[bK x.1,.slice a1 x.2.1.length k1,.slice a2 x.2.2.1.length k2,.slice a3 x.2.2.2.1.length bk] ∧
 U=[aY aF d b s L,av ag.u8 5 (.slice a1 x.2.1.length k1) x.2.1,av ag.u8 5 (.slice a2 x.2.2.1.length k2) x.2.2.1,cD (ek b8) 31 (.slice a3 x.2.2.2.1.length bk) x.2.2.2.1]
def BM (d:Fr) (s:Nat) (L:List aD) (n:Nat):Prop:=∀ ⦃r:Fr⦄ ⦃b:Nat⦄ ⦃p:List UInt8⦄ ⦃va:Value⦄ ⦃a:List Nat⦄,fR r d s L→p.length+n=510→gJ p→aj ag.nat r va a→(∀ i∈a,i<L.length)→a.length≤10000000→gf L a=di p L →
 ay prog 99 #[.pointer (some ⟨b,0,none⟩),.string (str p),va] r [aY aF d b s L] (aL (Mo d b s L (bN L p)))
def wu (d:Fr) (s:Nat) (L:List aD) (n:Nat):Prop:=∀ ⦃r:Fr⦄ ⦃b:Nat⦄ ⦃p:List UInt8⦄ ⦃va:Value⦄ ⦃a:List Nat⦄,fR r d s L→p.length+n=510→gJ p→aj ag.nat r va a→(∀ i∈a,i<L.length)→a.length≤10000000→gf L a=di p L →
 ay prog 96 #[.pointer (some ⟨b,0,none⟩),.string (str p),va] r [aY aF d b s L] (aL fun v U=>∃ a1 c1,v=.slice a1 64 c1∧U=[js aF d b s L (.slice a1 64 c1) (bw L p)])
theorem T6 {m:Fr} {k:UInt8} {v1 v2 v3:Value} {l r:List UInt8} {lv:List aD} (h:Sat [av ag.u8 5 v1 l,av ag.u8 5 v2 r,cD (ek b8) 31 v3 lv] m):jV.rel m [bK k,v1,v2,v3] (k,l,r,lv,()):=by
 obtain ⟨m1,m2,_,s1,s2,o1,m3,m4,_,s3,pP,o2,m5,_,_,yx,_,k6,_⟩:=h;have t3:=Fr.aI s3 s2;have t5:=Fr.aI yx (Fr.aI pP s2);exact jV.mk (o1.arr.mono s1) (o2.arr.mono t3) ((cD.arr k6).mono t5)
theorem LK {d:Fr} {s:Nat} {L:List aD} {n:Nat} (hn:BM d s L n):wu d s L n:=by
 intro r b p va a hT xE hp ha dg hal om
 obtain ⟨a1,c1,rfl⟩:=ha.shape;have gl:=qn hT.ok p;refine ay.of (n:=33) _ rfl func96 rfl rfl rfl fun g hg R hR=>?_;have hT:=hT.mono hg;have ha:=ha.mono hg;refine S.open (bs:=bU.ws aF b s) ai (fun m x=>aY.jc x) fun x=>?_;simp only [bU.ws,List.cons_append,List.nil_append]
 cases e:cL x.M p with
 |some v =>
  obtain ⟨q,_,hv⟩:=(x.ok p v e).2;obtain ⟨a7,ir,hvs⟩:=hv.shape;rw [gl] at hvs;subst hvs;refine S.seq<|S.region rfl<|O.q 1 rfl<|O.nil<|S.seq<|S.region rfl<|O.q 1 rfl<|O.op (.p rfl) (.nilCheck rfl)<|O.op (.p rfl) (.aH p5 rfl)<|O.op (.p rfl) (.lo lW) ?_;refine O.q 1 rfl<|O.op (.p rfl) (.pJ underlying75 (q3 underlying9) zeroValue24 rfl rfl ai) ?_;refine O.slot 15 (v' :=.tuple #[.slice a7 64 ir,.bool true]) rfl (by rw [e];rfl) ?_;refine O.q 3 rfl<|O.sT 17 rfl aK ?_;refine O.q 2 rfl<|O.nil<|S.seq<|S.seq<|S.region rfl<|O.q 1 rfl<|O.op (.p rfl) (.not rfl)<|O.nil<|S.aQ rfl<|S.skip<|S.seq<|S.region rfl<|O.q 2 rfl<|O.nil<|S.ct (A:=js aF d b s L (.slice a7 64 ir) (bw L p)) (bs:=x.ws aF b s) aW (fun m h=>js.fold x e h) ?_;exact S.rt results96 rfl hR ⟨a7,ir,rfl,rfl⟩
 |none =>
  refine S.seq<|S.region rfl<|O.q 1 rfl<|O.nil<|S.seq<|S.region rfl<|O.q 1 rfl<|O.op (.p rfl) (.nilCheck rfl)<|O.op (.p rfl) (.aH p5 rfl)<|O.op (.p rfl) (.lo lW) ?_;refine O.q 1 rfl<|O.op (.p rfl) (.pJ underlying75 (q3 underlying9) zeroValue24 rfl rfl ai) ?_;refine O.slot 15 (v' :=.tuple #[.slice none 0 0,.bool false]) rfl (by rw [e];rfl) ?_;refine O.q 3 rfl<|O.aM 17 rfl aK ?_;refine O.q 2 rfl<|O.nil<|S.seq<|S.seq<|S.region rfl<|O.q 1 rfl<|O.op (.p rfl) (.not rfl)<|O.nil<|S.bx rfl<|S.seq<|S.ct (A:=aY aF d b s L) (bs:=x.ws aF b s) aW (fun m h=>aY.fold x h) ?_;have hok:=Gc hT.ok p;have tY:=Xv hT.small p;have h12:=Km hok;have hsum:iB (bN L p)=bw L p:=LR L p;have ZE:p.length≤510:=hp.1;refine S.region rfl<|O.q 3 rfl<|O.bM (.p rfl) rfl aa rfl rfl ai (hn hT xE hp ha dg hal om) ?_;rintro _ _ ⟨q1,d1,q2,d2,cM,d3,rfl,rfl⟩
  try simp only [an,aq,au]
  refine O.c4 (.p rfl) rfl aa rfl rfl (bs:=[av ag.u8 5 (.slice q1 (bN L p).2.1.length d1) (bN L p).2.1,av ag.u8 5 (.slice q2 (bN L p).2.2.1.length d2) (bN L p).2.2.1,cD (ek b8) 31 (.slice cM (bN L p).2.2.2.1.length d3) (bN L p).2.2.2.1]) aW (fun m hm hd=>Kl (ag.rel.mono (T6 hm) (Fr.dB hd)) h12 tY (hT.hH.mono (Fr.dh _ _)) (hT.hK.mono (Fr.dh _ _))) ?_;rintro _ _ ⟨a24,k9,rfl,rfl⟩
  try simp only [an,aq,au]
  refine O.q 1 rfl<|O.nil ?_;rw [hsum,gl];refine S.open (bs:=bU.ws aF b s) ai (fun m x=>aY.jc x) fun y=>?_;simp only [bU.ws,List.cons_append,List.nil_append];have fq:=hg;have fp:=hR
  try have qL:=hT
  try have nK:=ha
  refine S.iw (B:=obj b 77 [y.dm,y.dn,.int .i64 (s:Int),.map (some y.mid)]) ai fun go cN ⟨qd,hmo,jw⟩ eV=>?_;replace hg:=Fr.aI hg cN;replace hR:=ig hR eV
  try replace hT:=hT.mono cN
  try replace ha:=ha.mono cN
  have dg:=(ga hmo).mono jw;refine S.bC (L:=[0,1,2,3,4,6,5,7]) bz aa ?_;refine af.q 1 rfl<|.quiet (.p rfl) rfl (fun _=>.nilCheck rfl)<|.quiet (.p rfl) rfl (fun _=>.fieldAddr p5 rfl)<|.quiet (.p rfl) rfl (fun _=>.loadAt lW rfl (dg.drop 3) rfl) ?_;refine af.q 2 rfl<|af.aC (.p rfl) aa rfl aa rfl rfl ((Lf ah)) ?_;rintro _ _ ⟨rfl,rfl⟩
  try simp only [an,aq,au]
  refine af.sn rfl aa underlying75 (q3 underlying9) rfl rfl rfl ai ?_;refine aJ.nil<|S.seq<|S.back eV ?_;replace hg:=fq;replace hR:=fp
  try replace hT:=qL
  try replace ha:=nK
  clear fq fp;refine S.ct (A:=js aF d b s L (.slice a24 64 k9) (bw L p)) (bs:=y.L_ aF b s 5 (.slice a24 64 k9) p (bw L p)) aW (fun m h=>js.put y hp rfl h) ?_;refine S.region rfl<|O.q 2 rfl<|O.nil ?_;exact S.rt results96 rfl hR ⟨a24,k9,rfl,rfl⟩
theorem Bi (p q:List UInt8):str p++str q=str (p++q):=by apply ByteArray.ext;simp [str]
theorem IJ {d:Fr} {s:Nat} {L:List aD} {n:Nat} (hs:wu d s L n) {r:Fr} {b b3 b4 iN:Nat} {p:List UInt8} {va:Value} {a:List Nat} {z:UInt8} (hz:z=48∨z=49) (hT:fR r d s L) (xE:p.length+(n+1)=510) (hp:gJ p) (ha:aj ag.nat r va a) (dg:∀ i∈a,i<L.length) (hal:a.length≤10000000) (om:gf L a=di p L)
  (h3:At r ⟨b3,0,none⟩ [.pointer (some ⟨b,0,none⟩)]) (h4:At r ⟨b4,0,none⟩ [.string (str p)]) (h5:At r ⟨iN,0,none⟩ [va]) :
  ay prog 164 (#[]++#[.string (str [z])]++#[.pointer (some ⟨b3,0,none⟩),.pointer (some ⟨b4,0,none⟩),.pointer (some ⟨iN,0,none⟩)]) r [aY aF d b s L] (aL fun v U=>∃ a1 c1,v=.slice a1 64 c1∧U=[aY aF d b s L,av ag.u8 5 (.slice a1 64 c1) (bw L (p++[z]))]):=by
 obtain ⟨a1,c1,rfl⟩:=ha.shape;have gl:=qn hT.ok (p++[z]);have hlen:(p++[z]).length=p.length+1:=by simp
 have hp2:gJ (p++[z]):=⟨by omega,fun c hc=>by
  rcases List.mem_append.1 hc with q|q
  ·exact hp.2 c q
  ·rw [List.mem_singleton.1 q];exact hz⟩
 have PD:gf L (fC L (p++[z]) a)=di (p++[z]) L:=by rw [y4 L _ a dg,om,Gf]
 have hs1:(str p).size=p.length:=sJ p;have hs2:(str [z]).size=1:=sJ [z];have PA:=Ge (p:=p++[z]) dg;have Pu:=Bo L (p++[z]) a;refine ay.of (n:=20) [.string (str [z]),.pointer (some ⟨b3,0,none⟩),.pointer (some ⟨b4,0,none⟩),.pointer (some ⟨iN,0,none⟩)] rfl func164 rfl rfl rfl fun g hg R hR=>?_;have hT:=hT.mono hg;have ha:=ha.mono hg;have h3:=h3.mono hg;have h4:=h4.mono hg;have h5:=h5.mono hg;refine S.seq<|S.region rfl<|O.q 1 rfl<|O.nil<|S.seq<|S.bC (L:=[0,1,2,3,4,5,6,7,8,9,10,11,12,13,14]) bz aa<|.quiet (.p rfl) rfl (fun _=>.loadAt o6 rfl h3 rfl) ?_;refine .quiet (.p rfl) rfl (fun _=>.loadAt bQ rfl h4 rfl) ?_;refine af.q 1 rfl<|.quiet (.p rfl) rfl (fun _=>.yY rfl rfl ah)<|af.slot 9 (v' :=.string (str (p++[z]))) rfl (by rw [Bi]) ?_;refine .quiet (.p rfl) rfl (fun _=>.loadAt o6 rfl h3 rfl) ?_;refine .quiet (.p rfl) rfl (fun _=>.nilCheck rfl)<|.quiet (.p rfl) rfl (fun _=>.fieldAddr lu rfl)<|.quiet (.p rfl) rfl (fun _=>.loadAt bQ rfl h4 rfl) ?_;refine af.q 1 rfl<|.quiet (.p rfl) rfl (fun _=>.yY rfl rfl ah)<|af.slot 15 (v' :=.string (str (p++[z]))) rfl (by rw [Bi]) ?_;refine .quiet (.p rfl) rfl (fun _=>.loadAt nA rfl h5 rfl) ?_
 refine af.c4 (.p rfl) aa rfl aa rfl rfl (bs:=[aY aF d b s L]) aW (fun m hm hd=>Gg (aY.gY hT.hd hd hm) (ha.mono (Fr.dh _ _)) dg ah hal) ?_;rintro _ _ ⟨a17,qw,rfl,rfl⟩
 try simp only [an,aq,au]
 refine af.eO (.p rfl) aa rfl aa rfl rfl (bs:=[aY aF d b s L,av ag.nat 3 (.slice a17 (fC L (p++[z]) a).length qw) (fC L (p++[z]) a)]) aW (ay.x2 (U:=[aY aF d b s L]) (bs:=[av ag.nat 3 (.slice a17 (fC L (p++[z]) a).length qw) (fC L (p++[z]) a)]) (fun m hm hd=>hs (hT.mono (Fr.dh _ _)) ah hp2 ((vS hm).mono (Fr.dB hd)) PA ah PD)) ?_;rintro _ _ ⟨jY,j3,rfl,rfl⟩
 try simp only [an,aq,au]
 refine af.c4 (.p rfl) aa rfl aa rfl rfl (bs:=[js aF d b s L (.slice jY 64 j3) (bw L (p++[z]))]) aW (fun m hm hd=>eG (js.gY hT.hd hd hm) ah) ?_;rintro _ _ ⟨yW,y8,rfl,rfl⟩
 try simp only [an,aq,au]
 refine af.q 1 rfl<|aJ.nil ?_;rw [gl];refine S.ct (A:=aY aF d b s L) (bs:=[js aF d b s L (.slice jY 64 j3) (bw L (p++[z]))]) aW (fun m h=>js.toX h) ?_;exact S.rt results164 rfl hR ⟨yW,y8,rfl,rfl⟩
theorem F6 {r d:Fr} {b s:Nat} {L:List aD} {p:List UInt8} (hT:fR r d s L) :
  ay prog 39 #[.pointer (some ⟨b,0,none⟩),.string (str p)] r [aY aF d b s L] (aL fun v U=>∃ a c,v=.slice a (kF L p).length c∧U=[aY aF d b s L,cD (dr b8) 102 (.slice a (kF L p).length c) (kF L p)]):=by
 have hbL:L.length≤10000000:=hT.small.1;refine ay.of (n:=29) _ rfl func39 rfl rfl rfl fun g hg R hR=>?_;have hT:=hT.mono hg;refine S.seq<|S.region rfl<|O.q 1 rfl<|O.nil<|S.seq<|S.seq<|S.region rfl<|O.q 1 rfl<|O.c4 (.p rfl) rfl aa rfl rfl (bs:=[aY aF d b s L]) aW (fun m hm hd=>qm (aY.gY hT.hd hd hm)) ?_;rintro _ _ ⟨rfl,rfl⟩
 try simp only [an,aq,au]
 refine O.sT 8 rfl aK ?_;refine O.op (.p rfl) (.not rfl)<|O.nil<|S.aQ rfl<|S.skip<|S.seq<|S.seq<|S.region rfl<|O.q 1 rfl<|O.op (.p rfl) (.nilCheck rfl)<|O.op (.p rfl) (.fieldAddr lu rfl)<|O.q 1 rfl<|O.c4 (.p rfl) rfl aa rfl rfl (bs:=[aY aF d b s L]) aW (fun m hm hd=>H8 (aY.gY hT.hd hd hm) hT.ok.2 ah) ?_;rintro _ _ ⟨rfl,rfl⟩
 try simp only [an,aq,au]
 refine O.q 5 rfl<|O.nil (S.seq ?_)
 by_cases q:k5 L p
 ·have hi:=q.1
  have e:kF L p=(L[bc L p]'hi).2.1:=by unfold kF;rw [dif_pos q]
  have pH:=hT.small.2 _ (List.getElem_mem hi);have iy:=(hT.ok.1 _ (List.getElem_mem hi)).1;rw [e] at hR;have fq:=hg;have fp:=hR
  try have qL:=hT
  refine S.iw (B:=aY aF d b s L) ai fun go cN ⟨qd,hmo,jw⟩ eV=>?_;replace hg:=Fr.aI hg cN;replace hR:=ig hR eV
  try replace hT:=hT.mono cN
  have hA:=aY.a hT.hd jw hmo;obtain ⟨cS,cT,cF,cG,mid,tG,tD,Iy⟩:=hA;refine S.region rfl<|O.q 1 rfl<|O.sT 18 rfl (by exact decide_eq_true q) ?_;refine O.nil<|S.bx rfl<|S.seq<|S.region rfl<|O.q 1 rfl<|O.op (.p rfl) (.nilCheck rfl)<|O.op (.p rfl) (.fieldAddr lu rfl)<|O.op (.p rfl) (.fieldAddr gG rfl)<|O.op (.p rfl) (.loadAt dV rfl tG rfl) ?_;refine O.q 1 rfl<|O.bR (.p rfl) underlying25 cQ rfl rfl (show _=(((bc L p):Nat):Int) by omega) (tD) (h:=fun UD NO tP Ew=>?_);obtain ⟨l1,m1,rfl,l2,l3⟩:=bP.sh Ew;refine O.op (.p rfl) (.fieldAddr eA rfl)<|O.op (.p rfl) (.loadAt dO rfl (tP.drop 1) rfl) ?_;refine O.aC (.p rfl) rfl aa rfl rfl ((yh l3 iy.2.1 ah)) ?_;rintro _ _ ⟨a28,s8,rfl,rfl⟩
  try simp only [an,aq,au]
  refine O.q 1 rfl<|O.nil<|S.back eV ?_;replace hg:=fq;replace hR:=fp
  try replace hT:=qL
  clear fq fp;exact S.rt results39 rfl hR ⟨a28,s8,rfl,rfl⟩
 ·have e:kF L p=[]:=by unfold kF;rw [dif_neg q]
  rw [e] at hR;refine S.region rfl<|O.q 1 rfl<|O.aM 18 rfl (by exact decide_eq_false q) ?_;refine O.nil<|S.aQ rfl<|S.skip<|S.seq<|S.region rfl<|O.q 1 rfl<|O.nil<|S.q6 (dr b8) 102 ?_;exact S.rt results39 rfl hR ⟨none,0,rfl,rfl⟩
theorem yE {r:Fr} {b s:Nat} {L:List aD} (h:kr r b s L) (hok:gu s L) (hs:L.length≤10000000∧∀ y∈L,y.2.1.length≤10000000) :
  ay prog 31 #[.pointer (some ⟨b,0,none⟩)] r [] (aL fun v U=>∃ a c,v=.slice a L.length c∧U=[cD (ek b8) 31 (.slice a L.length c) L]):=by
 have h0:=h;have hbL:=hs.1;obtain ⟨cS,cT,cF,cG,mid,h,hL,_⟩:=h;refine ay.of (n:=30) _ rfl func31 rfl rfl rfl fun g hg R hR=>?_;have h:=h.mono hg;have h0:=h0.mono hg;have hL:=hL.mono hg;refine S.q6 (ek b8) 31 ?_;refine S.seq<|S.region rfl<|O.q 1 rfl<|O.nil<|S.seq<|S.seq<|S.region rfl<|O.q 1 rfl<|O.aC (.p rfl) rfl aa rfl rfl ((qm h0)) ?_;rintro _ _ ⟨rfl,rfl⟩
 try simp only [an,aq,au]
 refine O.sT 7 rfl aK ?_;refine O.op (.p rfl) (.not rfl)<|O.nil<|S.aQ rfl<|S.skip<|S.seq<|S.region rfl<|O.q 1 rfl<|O.nil<|S.seq<|S.seq<|S.region rfl<|O.q 1 rfl<|O.op (.p rfl) (.nilCheck rfl)<|O.op (.p rfl) (.fieldAddr lu rfl)<|O.op (.p rfl) (.fieldAddr gG rfl)<|O.op (.p rfl) (.loadAt dV rfl h rfl) ?_;refine O.op (.p rfl) (.len rfl underlying25 rfl)<|O.q 1 rfl<|O.nil<|S.block<|S.jO (ι:=Nat) (dJ:=Option Addr × Nat) (fun i u=>i≤L.length) (fun i u=>[(15,.int .i64 (i:Int)),(3,.slice u.1 (L.take i).length u.2)]) [(13,_),(14,_)] (fun i u=>[cD (ek b8) 31 (.slice u.1 (L.take i).length u.2) (L.take i)]) (fun i u=>L.length - i) (0) ((none,0)) bL (.cons rfl (.cons rfl (.nil))) (.cons rfl (.cons rfl (.nil))) rfl fun i u hx ih=>?_;have bh:=cH (g:=g);refine S.seq<|S.region rfl<|O.op (.p rfl) (.lss rfl rfl)<|O.nil (S.seq ?_)
 first|refine S.cm rfl (fun fH=>?_) (fun fH=>?_)|refine S.b_ rfl (fun fH=>?_) (fun fH=>?_)
 ·have hi:i<L.length:=by omega
  have pH:=hs.2 _ (List.getElem_mem hi);have iy:=(hok.1 _ (List.getElem_mem hi)).1;have eW:L.take i++[L[i]]=L.take (i+1):=(List.take_succ_eq_append_getElem hi).symm;have jx:(L.take i).length=i:=by simp;omega
  have xO:(L.take (i+1)).length=i+1:=by simp;omega
  refine S.skip<|S.seq<|S.block<|S.seq<|S.region rfl<|O.bR (.p rfl) underlying25 cQ rfl rfl (show _=(((i):Nat):Int) by omega) (by first|assumption|exact aj.mono hg zE|exact aj.left zE|exact aj.left (aj.mono hg zE)) (h:=fun aaX YW D9 Ev=>?_);obtain ⟨aau,aaB,rfl,ZX,Dy⟩:=bP.sh Ev;refine O.op (.p rfl) (.bE isAgg31 aa rfl D9) ?_;refine O.aN (.p rfl) (.alloc (cs:=[.string ⟨#[]⟩,.slice none 0 0]) zeroValue31 rfl) ?_;rintro _ _ ⟨iN,rfl,rfl⟩;refine O.bB rfl (.c9 aa rfl rfl rfl rfl ai aX) ?_;refine O.nil<|S.de ai fun g hs hm h5=>?_;replace hg:=Fr.aI hg hs;replace hR:=bu hR hm
  try replace h:=h.mono hs
  try replace h0:=h0.mono hs
  try replace hL:=hL.mono hs
  try replace D9:=D9.mono hs
  try replace Dy:=Dy.mono hs
  try replace Ev:=Ev.mono hs
  replace bh:=dQ bh hm;clear hs hm;refine S.ug (G:=ek b8) (k' :=2) rfl ai fun ak ec=>?_;rw [← ec];refine S.bC (L:=[0,1,2,3,4,5,6,7,8,9]) bz aa ?_;refine af.q 1 rfl<|.quiet (.p rfl) rfl (fun _=>.fieldAddr ef rfl)<|.quiet (.p rfl) rfl (fun _=>.loadAt bQ rfl h5 rfl) ?_;refine .quiet (.p rfl) rfl (fun _=>.fieldAddr eA rfl)<|.quiet (.p rfl) rfl (fun _=>.loadAt dO rfl (h5.drop 1) rfl) ?_;refine af.aC (.p rfl) aa rfl aa rfl rfl ((yh Dy iy.2.1 ah)) ?_;rintro _ _ ⟨a24,k9,rfl,rfl⟩
  try simp only [an,aq,au]
  refine .quiet (.p rfl) rfl (fun _=>.build (cs:=[_,_]) underlying31 rfl rfl rfl rfl rfl)<|af.cA (T:=(ag.cells 2)) (ys:=[_]) (.p rfl) aa underlying25 lg aB rfl rfl ⟨⟨rfl,rfl,by first|(simp;done)|(intro v hv;simp [Value.cells] at hv;rcases hv with rfl|rfl<;>rfl)|(refine List.forall_mem_cons.2 ⟨rfl,?_⟩;repeat (first|exact (fun _ h=>absurd h List.not_mem_nil)|refine List.forall_mem_cons.2 ⟨rfl,?_⟩))⟩,trivial⟩ aB (fun a26 gh=>?_);refine af.gN (.p rfl) aa (T:=(ag.cells 2)) underlying25 lg aB rfl rfl ai ai bD bD (fun a27 s7=>?_);refine af.q 1 rfl<|aJ.nil<|S.inBlock<|S.ct (A:=(ek b8).own [.string (str L[i].1),.slice a24 L[i].2.1.length k9] (L[i].1,L[i].2.1,())) (bs:=[cD (dr b8) 102 (.slice a24 L[i].2.1.length k9) L[i].2.1]) aW (fun m h=>ek.mk (by have:=iy.1.2;omega) h) ?_;refine S.x5 (G:=ek b8) (k' :=2) rfl ai ai ai ?_;rw [show (L[i].1,L[i].2.1,())=L[i] from rfl,eW];refine S.slot 3 (v' :=.slice a27 (L.take (i+1)).length s7) rfl (by rw [ec,jx,xO];rfl) ?_;simp only [List.length_singleton];rw [show ak.length+1=(L.take (i+1)).length by omega];refine S.region rfl<|O.op (.p rfl) (.add rfl rfl (IntWalk.i64_in _ ah))<|O.q 1 rfl<|O.nil ?_;exact S.iA bh (S.pw (ih (i+1) ((a27,s7)) ah ah))
 ·clear ih
  have hi:i=L.length:=by omega
  subst hi;rw [List.take_of_length_le ah];refine S.exit rfl<|S.seq<|S.region rfl<|O.q 2 rfl<|O.nil ?_;exact S.rt results31 rfl hR ⟨u.1,u.2,rfl,rfl⟩
theorem Hv {r:Fr} {va:Value} {xs:List (List UInt8)} (ha:aj ag.str r va xs) (hl:xs.length≤1000000000000) :
  ay prog 106 #[va] r [] (aL fun v U=>∃ a c,v=.slice a xs.length c∧U=[av ag.str 9 v xs]):=by
 refine ay.of (n:=8) _ rfl func106 rfl rfl rfl fun g hg R hR=>?_;have ha:=ha.mono hg;obtain ⟨a1,c1,rfl⟩:=ha.shape
 cases a1 with
 |none =>
  refine S.seq<|S.region rfl<|O.q 1 rfl<|O.nil<|S.seq<|S.seq<|S.region rfl<|O.q 1 rfl<|O.op (.p rfl) (.nx underlying53 rfl rfl)<|O.nil<|S.bx rfl<|S.seq<|S.region rfl<|O.q 1 rfl<|O.nil ?_;obtain ⟨rfl,_,rfl⟩:=aj.ya aB ha;refine S.gd (T:=ag.str) (e:=9) ?_;refine S.ret results106 rfl fun w hw=>hR _ _ w ?_ hw;exact ⟨none,0,rfl,rfl⟩
 |some a1 =>
  refine S.seq<|S.region rfl<|O.q 1 rfl<|O.nil<|S.seq<|S.seq<|S.region rfl<|O.q 1 rfl<|O.op (.p rfl) (.nx underlying53 rfl rfl)<|O.nil<|S.aQ rfl<|S.skip<|S.seq<|S.region rfl<|O.aN (.p rfl) (.cA (T:=ag.str) (ys:=[]) underlying53 gv aB rfl rfl trivial aB) ?_;rintro _ _ ⟨a5,dS,rfl,rfl⟩;refine O.q 1 rfl<|O.aN (.p rfl) (.mF (T:=ag.str) AU underlying53 gv aB rfl rfl ai (by first|assumption|exact aj.mono hg zE|exact aj.left zE|exact aj.left (aj.mono hg zE)) bD bD) ?_;rintro _ _ ⟨a7,ir,rfl,rfl⟩;refine O.q 1 rfl<|O.nil<|S.ret results106 rfl fun w hw=>hR _ _ w ?_ hw;exact ⟨a7,ir,by simp,by simp⟩
end Go.Proofs.YtojafegjlahajaaGreatDoor
