/- Texts of this proof. -/
import Derived.Test.YtojafegjlahajaaGreatDoorQLaw24o
import Derived.Test.YtojafegjlahajaaGreatDoorQSpLies
open Go Go.Sp Go.Proofs.Tryz
set_option maxRecDepth 100000
set_option maxHeartbeats 1000000
attribute [local irreducible] obj Own av
namespace Go.Proofs.YtojafegjlahajaaGreatDoor
attribute [local irreducible] bN bw fN
theorem Ua {α:Type} {xs:List α} {x:α} {i:Nat} (hi:i<xs.length) (h:x ∉ xs.take i) (e:¬ xs[i]=x):x ∉ xs.take (i+1):=fun q=>by
 rw [List.take_succ_eq_append_getElem hi] at q
 rcases List.mem_append.1 q with u|u
 ·exact h u
 ·exact e (List.mem_singleton.1 u).symm
theorem DG {r:Fr} {va:Value} {cs:List Value} {xs:List aP} {x:aP} (ha:aj cv r va xs) (h:cv.rel r cs x):ay prog 60 #[va,.agg cs.toArray] r [] (aL fun v U=>v=.bool (decide (x∈xs))∧U=[]):=by
 have har:=ha;have hbd:=ha.bound;have h0:=h;obtain ⟨a1,c1,rfl⟩:=ha.shape;obtain ⟨a3,a5,a6,c3,dS,dH,rfl,_⟩:=cv.sh h;refine ay.of (n:=18) _ rfl func60 rfl rfl rfl fun g hg R hR=>?_;have ha:=ha.mono hg;have h0:=h0.mono hg;refine S.seq<|S.region rfl<|O.aN (.p rfl) (.box (cs:=[_,_,_,_,_,_,_]) rfl rfl) ?_;rintro _ _ ⟨b3,rfl,rfl⟩;refine O.q 1 rfl<|O.nil<|S.seq<|S.seq<|S.dx (b:=b3) (cs' :=[.string (str x.1),.int .i64 x.2.1,.int .i64 x.2.2.1,.slice a3 x.2.2.2.1.length c3,.bool x.2.2.2.2.1,.slice a5 x.2.2.2.2.2.1.length dS,.slice a6 x.2.2.2.2.2.2.1.length dH]) ai rfl ?_;refine S.de ai fun g hs hm h3=>?_;replace hg:=Fr.aI hg hs;replace hR:=bu hR hm
 try replace ha:=ha.mono hs
 try replace h0:=h0.mono hs
 clear hs hm;refine S.region rfl<|O.q 1 rfl<|O.nil<|S.block<|S.eM (ι:=Nat) (fun i=>i≤xs.length∧x ∉ xs.take i) (fun i=>[(5,.int .i64 (i:Int))]) [(0,_),(3,_)] (fun i=>[]) (fun i=>xs.length - i) (0) (by exact ⟨Nat.zero_le _,fun q=>by cases q⟩) (.cons rfl (.nil)) (.cons rfl (.cons rfl (.nil))) rfl fun i hx ih=>?_;have bh:=cH (g:=g);obtain ⟨hx1,hx2⟩:=hx;refine S.seq<|S.seq<|S.region rfl<|O.q 2 rfl<|O.op (.p rfl) (.len rfl underlying22 rfl)<|O.op (.p rfl) (.lss rfl rfl)<|O.nil ?_
 first|refine S.cm rfl (fun h9=>?_) (fun h9=>?_)|refine S.b_ rfl (fun h9=>?_) (fun h9=>?_)
 ·have hi:i<xs.length:=by omega
  by_cases e:xs[i]=x
  ·have hm:x∈xs:=e ▸ List.getElem_mem hi
   clear ih;refine S.skip<|S.seq<|S.block<|S.seq<|S.bC (L:=[0,1,2,3,4,5]) bz aa<|af.q 2 rfl<|af.ib (.p rfl) underlying22 mz rfl rfl rfl har hg (h:=fun sw s9 kX mc=>?_);have kY:=ag.rel.mono mc hg;obtain ⟨Vj,Vn,Vr,Vw,VA,VE,rfl,D2,Qi,Qm,O9,Ph,Pn⟩:=cv.sh kY;refine .quiet (.p rfl) rfl (fun _=>.bE isAgg102 aa rfl kX) ?_;refine .quiet (.p rfl) rfl (fun _=>.bE isAgg102 aa rfl h3) ?_;refine af.aC (.p rfl) aa rfl aa rfl rfl ((Bd kY h0)) ?_;rintro _ _ ⟨rfl,rfl⟩
   try simp only [an,aq,au]
   refine af.sT 17 rfl (by exact decide_eq_true e) ?_;refine aJ.nil<|S.bx rfl<|S.seq<|S.region rfl<|O.q 1 rfl<|O.nil ?_;exact S.rt results60 rfl hR ⟨congrArg Value.bool (decide_eq_true hm).symm,rfl⟩
  ·
   refine S.skip<|S.seq<|S.block<|S.seq<|S.bC (L:=[0,1,2,3,4,5]) bz aa<|af.q 2 rfl<|af.ib (.p rfl) underlying22 mz rfl rfl rfl har hg (h:=fun sw s9 kX mc=>?_);have kY:=ag.rel.mono mc hg;obtain ⟨Vj,Vn,Vr,Vw,VA,VE,rfl,D2,Qi,Qm,O9,Ph,Pn⟩:=cv.sh kY;refine .quiet (.p rfl) rfl (fun _=>.bE isAgg102 aa rfl kX) ?_;refine .quiet (.p rfl) rfl (fun _=>.bE isAgg102 aa rfl h3) ?_;refine af.aC (.p rfl) aa rfl aa rfl rfl ((Bd kY h0)) ?_;rintro _ _ ⟨rfl,rfl⟩
   try simp only [an,aq,au]
   refine af.aM 17 rfl (by exact decide_eq_false e) ?_;refine aJ.nil<|S.aQ rfl<|S.skip<|S.inBlock<|S.region rfl<|O.q 1 rfl<|O.op (.p rfl) (.add rfl rfl (IntWalk.i64_in _ ah))<|O.q 1 rfl<|O.nil ?_;have hnt:=Ua hi hx2 e;exact S.dD (ih (i+1) (by exact ⟨by omega,hnt⟩) ah)
 ·clear ih
  have hi:i=xs.length:=by omega
  subst hi;rw [List.take_length] at hx2;refine S.exit rfl<|S.seq<|S.region rfl<|O.q 1 rfl<|O.nil ?_;exact S.rt results60 rfl hR ⟨congrArg Value.bool (decide_eq_false hx2).symm,rfl⟩
theorem Ue {l:List aP} (h:gI l=true) {y:aP} (hy:y∈l):y.1=(l[0]'(List.length_pos_of_mem hy)).1:=by
 obtain ⟨i,hi,rfl⟩:=List.mem_iff_getElem.1 hy;exact (vR.1 h i hi).2
theorem VZ {s:Nat} {L:List aD} (h:gu s L) {p:List UInt8} {y:aP} (hy:y∈pN (bN L p)):y∈kF L y.1:=by
 obtain ⟨l,hl,mO⟩:=List.mem_flatten.1 hy;obtain ⟨x,hx,rfl⟩:=List.mem_map.1 hl;have Aj:x∈L:=by
  rcases Bl L p with q|q
  ·rw [q] at hx;cases hx
  ·rw [q] at hx;exact (List.mem_filter.1 hx).1
 have hk:=ue.1 (h.1 x Aj).1;have h1:=Ue hk.2.2.1.1 mO;have h0:=hk.2.2.2 hk.2.1;rw [h1,h0,OL h.2 Aj];exact mO
theorem VU {x:ed} (h:x.2.2.2.1.length≤100000∧∀ y∈x.2.2.2.1,y.2.1.length≤100000):(pN x).length≤10000000000:=Aq (N:=100000) (M:=100000) _ h.2 h.1
theorem T2 {L:List aD} {p:List UInt8} (h:gJ p):lG L p=bN L p:=by unfold lG;rw [if_pos h]
end Go.Proofs.YtojafegjlahajaaGreatDoor
