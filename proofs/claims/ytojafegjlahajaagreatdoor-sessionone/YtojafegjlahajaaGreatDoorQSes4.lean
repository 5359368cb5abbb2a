/- Texts of this proof. -/
import Derived.Test.YtojafegjlahajaaGreatDoorQSes3
import Derived.Test.YtojafegjlahajaaGreatDoorQSpPull
open Go Go.Sp Go.Proofs.Tryz
set_option maxRecDepth 100000
set_option maxHeartbeats 1000000
attribute [local irreducible] obj Own av
namespace Go.Proofs.YtojafegjlahajaaGreatDoor
attribute [local irreducible] cF bA
theorem Kt (L:List aH) (p:List UInt8):tV L p=jJ L p:=rfl
theorem R7 {ps W:List (List UInt8)} {i:Nat} (h:i<ps.length) (hn:ps.Nodup) (hw:∀ p∈ps,p ∉ W) {l:List (List UInt8)} (hl:∀ p∈l,p∈ps.take i):ps[i] ∉ W++l:=fun q=>by
 rcases List.mem_append.1 q with u|u
 ·exact hw _ (List.getElem_mem h) u
 ·obtain ⟨j,hj,e⟩:=List.mem_iff_getElem.1 (hl _ u)
  rw [List.getElem_take] at e;rw [List.length_take] at hj;exact absurd ((List.nodup_iff_pairwise_ne.1 hn |>List.pairwise_iff_getElem.1) j i ah h ah) (by simpa using e)
theorem Es {d:Fr} {aS s n n' :Nat} {L:List aH} {peer:Int} {bM:Bool} {W W' :List (List UInt8)} {F:List UInt8→List UInt8} {m:Fr} (h:bN aJ 89 d aS s L peer bM W F n m) (e:W=W') (e2:n=n'):bN aJ 89 d aS s L peer bM W' F n' m:=e ▸ e2 ▸ h
theorem J1 {r d:Fr} {aS s n:Nat} {L:List aH} {peer:Int} {bM:Bool} {va x8:Value} {xs ps W:List (List UInt8)} {F:List UInt8→List UInt8} (hT:gH r d s L) (ha:aj (ag.slice ag.u8) r va xs) (hp:aj ag.str r x8 ps) (hxs:xs=ps.map F) (hps:∀ p∈ps,p.length≤1000000) (hlen:∀ x∈xs,x.length≤1000000) (di:ps.Nodup) (Ov:∀ p∈ps,p ∉ W) (mz:ps.length≤1000) (hn:n≤1000000000) :
  ay prog 123 #[.pointer (some ⟨aS,0,none⟩),va,x8] r [bN aJ 89 d aS s L peer bM W F n] (aM fun v U=>∃ a c,v=.slice a (dh L F ps).length c∧U=[bN aJ 89 d aS s L peer bM (W++dh L F ps) F (n+(dh L F ps).length),av ag.str 9 (.slice a (dh L F ps).length c) (dh L F ps)]):=by
 have hxl:xs.length=ps.length:=by rw [hxs,List.length_map]
 obtain ⟨a1,c1,rfl⟩:=ha.shape;obtain ⟨a2,c2,rfl⟩:=hp.shape;refine ay.of (n:=53) _ rfl func123 rfl rfl rfl fun g hg R hR=>?_;have hT:=hT.mono hg;have ha:=ha.mono hg;have hp:=hp.mono hg;refine S.gd (T:=ag.str) (e:=9) ?_;refine S.cg (A:=bN aJ 89 d aS s L peer bM (W++dh L F (ps.take 0)) F (n+(dh L F (ps.take 0)).length)) (bs:=[bN aJ 89 d aS s L peer bM W F n]) aV (fun m h=>Es (bN.up h) (List.append_nil W).symm rfl) ?_;refine S.seq<|S.region rfl<|O.q 1 rfl<|O.nil<|S.seq<|S.region rfl<|O.q 1 rfl<|O.nil<|S.seq<|S.seq<|S.region rfl<|O.q 1 rfl<|O.op (.p rfl) (.len rfl underlying53 rfl)<|O.q 1 rfl<|O.nil<|S.block<|S.jG (ι:=Nat) (dB:=Option Addr × Nat) (fun i u=>i≤ps.length) (fun i u=>[(12,.int .i64 (i:Int)),(7,.slice u.1 (dh L F (ps.take i)).length u.2)]) [(0,_),(1,_),(10,_),(11,_)] (fun i u=>[bN aJ 89 d aS s L peer bM (W++dh L F (ps.take i)) F (n+(dh L F (ps.take i)).length),av ag.str 9 (.slice u.1 (dh L F (ps.take i)).length u.2) (dh L F (ps.take i))]) (fun i u=>ps.length - i) (0) ((none,0)) bq (.cons rfl (.cons rfl (.nil))) (.cons rfl (.cons rfl (.cons rfl (.cons rfl (.nil))))) rfl fun i u hx ih=>?_;have bl:=cW (g:=g);refine S.seq<|S.region rfl<|O.op (.p rfl) (.lss rfl rfl)<|O.nil (S.seq ?_)
 first|refine S.ct rfl (fun iJ=>?_) (fun iJ=>?_)|refine S.cm rfl (fun iJ=>?_) (fun iJ=>?_)
 ·have hi:i<ps.length:=by omega
  have Oi:i<xs.length:=by omega
  have qC:xs[i]=F ps[i]:=by subst hxs;exact List.getElem_map ..
  have hpi:=hps _ (List.getElem_mem hi);have C6:=hlen _ (List.getElem_mem Oi);have hal:=FR L F (ps.take i);have jl:(ps.take i).length=i:=by rw [List.length_take];omega
  have hni:ps[i] ∉ W++dh L F (ps.take i):=R7 hi di Ov fun p hp=>(FT.1 hp).1;refine S.open (bs:=fun x:iU (W++dh L F (ps.take i)) F=>eE aJ 89 d x.k aS x.bz x.mp s L peer bM (n+(dh L F (ps.take i)).length) x.M x.c) ai (fun m h=>bN.gy h) fun x=>?_;simp only [eE,List.cons_append,List.nil_append]
  by_cases q:jJ L ps[i]=F ps[i]
  ·have e:=Ll (L:=L) (F:=F) hi (by rw [Kt];exact q)
   refine S.skip<|S.seq<|S.block<|S.seq<|S.region rfl<|O.q 1 rfl<|O.b_ (.p rfl) underlying53 gG rfl rfl (show _=(((i):Nat):Int) by omega) (hp) (h:=fun xN v_ gR kN=>?_);obtain ⟨rfl,_⟩:=kN;refine O.op (.p rfl) (.loadAt bV rfl gR rfl) ?_;refine O.q 2 rfl<|O.nil<|S.seq<|S.bB (L:=[0,1,2,4,5,6,7,8,3,9]) bx aa ?_;refine af.q 1 rfl<|.quiet (.p rfl) rfl (fun _=>.nilCheck rfl)<|.quiet (.p rfl) rfl (fun _=>.aF sP rfl)<|af.q 3 rfl<|af.b_ (.p rfl) underlying109 tP rfl rfl (show _=(((i):Nat):Int) by omega) (ha) (h:=fun xO we lP oT=>?_);obtain ⟨v24,rfl,rF⟩:=oT;obtain ⟨a24,kT,rfl⟩:=rF.shape;refine .quiet (.p rfl) rfl (fun _=>.loadAt bg rfl lP rfl) ?_;refine af.cr (.p rfl) aa (fun _=>.rU (news:=[.pointer (some ⟨x.bz,0,none⟩)]) isAgg85 aa aG ai aG) ?_;refine af.bD (.p rfl) aa rfl aa rfl rfl ai (ER (p:=ps[i]) (xs:=xs[i]) hT rF ah) ?_;rintro _ _ ⟨rfl,rfl⟩
   try simp only [an,aq,au]
   refine af.aL 26 rfl (by simp [qC,q]) ?_;refine aK.nil<|S.aP rfl<|S.skip<|S.inBlock<|S.region rfl<|O.op (.p rfl) (.add rfl rfl (IntWalk.i64_in _ ah))<|O.q 1 rfl<|O.nil<|S.cg (A:=bN aJ 89 d aS s L peer bM (W++dh L F (ps.take i)) F (n+(dh L F (ps.take i)).length)) (bs:=eE aJ 89 d x.k aS x.bz x.mp s L peer bM (n+(dh L F (ps.take i)).length) x.M x.c) aV (fun m h=>bN.fold x h) ?_;refine S.cg (A:=bN aJ 89 d aS s L peer bM (W++dh L F (ps.take (i+1))) F (n+(dh L F (ps.take (i+1))).length)) (bs:=[bN aJ 89 d aS s L peer bM (W++dh L F (ps.take i)) F (n+(dh L F (ps.take i)).length)]) aV (fun m h=>Es (bN.up h) (by rw [e]) (by rw [e])) ?_;refine S.jm (T:=ag.str) (e:=9) (v' :=.slice u.1 (dh L F (ps.take (i+1))).length u.2) (xs' :=dh L F (ps.take (i+1))) ai (by rw [e]) e.symm ?_;refine S.slot 7 (v' :=.slice u.1 (dh L F (ps.take (i+1))).length u.2) rfl (by rw [e]) ?_;exact S.pw (ih (i+1) (u) ah ah)
  ·have e:=Lm (L:=L) (F:=F) hi (by rw [Kt];exact q)
   refine S.skip<|S.seq<|S.block<|S.seq<|S.region rfl<|O.q 1 rfl<|O.b_ (.p rfl) underlying53 gG rfl rfl (show _=(((i):Nat):Int) by omega) (hp) (h:=fun xN v_ gR kN=>?_);obtain ⟨rfl,_⟩:=kN;refine O.op (.p rfl) (.loadAt bV rfl gR rfl) ?_;refine O.q 2 rfl<|O.nil<|S.seq<|S.bB (L:=[0,1,2,4,5,6,7,8,3,9]) bx aa ?_;refine af.q 1 rfl<|.quiet (.p rfl) rfl (fun _=>.nilCheck rfl)<|.quiet (.p rfl) rfl (fun _=>.aF sP rfl)<|af.q 3 rfl<|af.b_ (.p rfl) underlying109 tP rfl rfl (show _=(((i):Nat):Int) by omega) (ha) (h:=fun xO we lP oT=>?_);obtain ⟨v24,rfl,rF⟩:=oT;obtain ⟨a24,kT,rfl⟩:=rF.shape;refine .quiet (.p rfl) rfl (fun _=>.loadAt bg rfl lP rfl) ?_;refine af.cr (.p rfl) aa (fun _=>.rU (news:=[.pointer (some ⟨x.bz,0,none⟩)]) isAgg85 aa aG ai aG) ?_;refine af.bD (.p rfl) aa rfl aa rfl rfl ai (ER (p:=ps[i]) (xs:=xs[i]) hT rF ah) ?_;rintro _ _ ⟨rfl,rfl⟩
   try simp only [an,aq,au]
   refine af.sT 26 rfl (by simp [qC,q]) ?_;refine aK.nil<|S.bC rfl<|S.seq ?_;have fS:=hg;have fR:=hR
   try have sW:=hT
   try have nr:=ha
   try have Dm:=hp
   try have OK:=gR
   try have OO:=lP
   refine S.iH (B:=obj aS 89 [.pointer (some ⟨x.bz,0,none⟩),.map (some x.mp),.int .i64 ((n+(dh L F (ps.take i)).length:Nat):Int),.int .i64 peer,.bool bM]) ai fun go cR ⟨qI,hmo,jZ⟩ fC=>?_;replace hg:=Fr.aI hg cR;replace hR:=iB hR fC
   try replace hT:=hT.mono cR
   try replace ha:=ha.mono cR
   try replace hp:=hp.mono cR
   try replace gR:=gR.mono cR
   try replace lP:=lP.mono cR
   have dg:=(fK hmo).mono jZ;refine S.bB (L:=[0,1,2,3,4,5,6,7,8,9,10,11]) bx aa ?_;refine af.q 1 rfl<|.quiet (.p rfl) rfl (fun _=>.nilCheck rfl)<|.quiet (.p rfl) rfl (fun _=>.fieldAddr oH rfl)<|.quiet (.p rfl) rfl (fun _=>.fieldAddr sO rfl)<|.quiet (.p rfl) rfl (fun _=>.loadAt kK rfl (dg.drop 1) rfl) ?_;refine af.q 3 rfl<|af.b_ (.p rfl) underlying109 tP rfl rfl (show _=(((i):Nat):Int) by omega) (ha) (h:=fun Yn Wq OR Pb=>?_);obtain ⟨v35,rfl,Hr⟩:=Pb;obtain ⟨a35,Bw,rfl⟩:=Hr.shape;refine .quiet (.p rfl) rfl (fun _=>.loadAt bg rfl OR rfl) ?_;refine af.aC (.p rfl) aa rfl aa rfl rfl ((er Hr ah)) ?_;rintro _ _ ⟨a37,vV,rfl,rfl⟩
   try simp only [an,aq,au]
   refine af.rV rfl aa underlying75 (o3 underlying9) rfl rfl rfl ai ?_;refine aK.nil<|S.seq<|S.back fC ?_;replace hg:=fS;replace hR:=fR
   try replace hT:=sW
   try replace ha:=nr
   try replace hp:=Dm
   try replace gR:=OK
   try replace lP:=OO
   clear fS fR;refine S.region rfl<|O.q 1 rfl<|O.op (.p rfl) (.nilCheck rfl)<|O.op (.p rfl) (.aF oH rfl)<|O.op (.p rfl) (.aF y2 rfl)<|O.op (.p rfl) (.lo cv) ?_;refine O.op (.p rfl) (.add rfl rfl (IntWalk.i64_in _ ah))<|O.op (.p rfl) (.nilCheck rfl)<|O.op (.p rfl) (.aF oH rfl)<|O.op (.p rfl) (.aF y2 rfl)<|O.bw rfl (.bk cv rfl rfl bn ai aT) ?_;refine O.nil<|S.region rfl<|O.q 2 rfl<|O.aO (.p rfl) (.cn (T:=ag.str) (ys:=[_]) underlying53 iG zE rfl rfl ⟨⟨rfl,by first|omega|(simp;done)|(simp;omega)|decide⟩,trivial⟩ zE) ?_;rintro _ _ ⟨a49,uz,rfl,rfl⟩;refine O.aO (.p rfl) (.gJ (T:=ag.str) underlying53 iG zE rfl rfl ai ai bL bL) ?_;rintro _ _ ⟨a50,mY,rfl,rfl⟩;refine O.q 1 rfl<|O.nil<|S.inBlock<|S.cg (A:=bN aJ 89 d aS s L peer bM (W++dh L F (ps.take (i+1))) F (n+(dh L F (ps.take (i+1))).length)) (bs:=[jt x.k,av ag.u8 5 (.slice a37 xs[i].length vV) xs[i],obj aS 89 [.pointer (some ⟨x.bz,0,none⟩),.map (some x.mp),.int .i64 ((n+(dh L F (ps.take i)).length+1:Nat):Int),.int .i64 peer,.bool bM],bp aJ d x.bz s L,cc encS x.mp (ir x.M x.c ps[i] (.slice a37 xs[i].length vV)) (kI x.M x.c ps[i])]) aV (fun m h=>Es (bN.put x hni qC h) (by rw [e,List.append_assoc]) (by rw [e,List.length_append];rfl)) ?_
   refine S.jm (T:=ag.str) (e:=9) (v' :=.slice a50 (dh L F (ps.take (i+1))).length mY) (xs' :=dh L F (ps.take (i+1))) ai (by rw [e,List.length_append]) e.symm ?_;refine S.slot 7 (v' :=.slice a50 (dh L F (ps.take (i+1))).length mY) rfl (by rw [e,List.length_append]) ?_;refine S.region rfl<|O.op (.p rfl) (.add rfl rfl (IntWalk.i64_in _ ah))<|O.q 1 rfl<|O.nil ?_;exact S.pw (ih (i+1) ((a50,mY)) ah ah)
 ·clear ih
  have hi:i=ps.length:=by omega
  subst hi;rw [List.take_length];refine S.exit rfl<|S.seq<|S.region rfl<|O.q 2 rfl<|O.nil ?_;exact S.rt results123 rfl hR ⟨u.1,u.2,rfl,rfl⟩
end Go.Proofs.YtojafegjlahajaaGreatDoor
