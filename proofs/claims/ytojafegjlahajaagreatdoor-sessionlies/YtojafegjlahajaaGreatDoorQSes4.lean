/- Texts of this proof. -/
import Derived.Test.YtojafegjlahajaaGreatDoorQSes3
import Derived.Test.YtojafegjlahajaaGreatDoorQSpPull
open Go Go.Sp Go.Proofs.Tryz
set_option maxRecDepth 100000
set_option maxHeartbeats 1000000
attribute [local irreducible] obj Own av
namespace Go.Proofs.YtojafegjlahajaaGreatDoor
attribute [local irreducible] bw bZ
theorem Lb (L:List aG) (p:List UInt8):uv L p=jX L p:=rfl
theorem Ty {ps W:List (List UInt8)} {i:Nat} (h:i<ps.length) (hn:ps.Nodup) (hw:∀ p∈ps,p ∉ W) {l:List (List UInt8)} (hl:∀ p∈l,p∈ps.take i):ps[i] ∉ W++l:=fun q=>by
 rcases List.mem_append.1 q with u|u
 ·exact hw _ (List.getElem_mem h) u
 ·obtain ⟨j,hj,e⟩:=List.mem_iff_getElem.1 (hl _ u)
  rw [List.getElem_take] at e;rw [List.length_take] at hj;exact absurd ((List.nodup_iff_pairwise_ne.1 hn |>List.pairwise_iff_getElem.1) j i ah h ah) (by simpa using e)
theorem Fa {d:Fr} {bh s n n' :Nat} {L:List aG} {peer:Int} {cm:Bool} {W W' :List (List UInt8)} {F:List UInt8→List UInt8} {m:Fr} (h:cN aJ 89 d bh s L peer cm W F n m) (e:W=W') (e2:n=n'):cN aJ 89 d bh s L peer cm W' F n' m:=e ▸ e2 ▸ h
theorem KG {r d:Fr} {bh s n:Nat} {L:List aG} {peer:Int} {cm:Bool} {va yD:Value} {xs ps W:List (List UInt8)} {F:List UInt8→List UInt8} (hT:gK r d s L) (ha:aj (ag.slice ag.u8) r va xs) (hp:aj ag.str r yD ps) (hxs:xs=ps.map F) (hps:∀ p∈ps,p.length≤1000000) (hlen:∀ x∈xs,x.length≤1000000) (dy:ps.Nodup) (PL:∀ p∈ps,p ∉ W) (mO:ps.length≤1000) (hn:n≤1000000000) :
  ay prog 123 #[.pointer (some ⟨bh,0,none⟩),va,yD] r [cN aJ 89 d bh s L peer cm W F n] (aL fun v U=>∃ a c,v=.slice a (dh L F ps).length c∧U=[cN aJ 89 d bh s L peer cm (W++dh L F ps) F (n+(dh L F ps).length),av ag.str 9 (.slice a (dh L F ps).length c) (dh L F ps)]):=by
 have hxl:xs.length=ps.length:=by rw [hxs,List.length_map]
 obtain ⟨a1,c1,rfl⟩:=ha.shape;obtain ⟨a2,c2,rfl⟩:=hp.shape;refine ay.of (n:=53) _ rfl func123 rfl rfl rfl fun g hg R hR=>?_;have hT:=hT.mono hg;have ha:=ha.mono hg;have hp:=hp.mono hg;refine S.gh (T:=ag.str) (e:=9) ?_;refine S.cB (A:=cN aJ 89 d bh s L peer cm (W++dh L F (ps.take 0)) F (n+(dh L F (ps.take 0)).length)) (bs:=[cN aJ 89 d bh s L peer cm W F n]) bf (fun m h=>Fa (cN.up h) (List.append_nil W).symm rfl) ?_;refine S.seq<|S.region rfl<|O.q 1 rfl<|O.nil<|S.seq<|S.region rfl<|O.q 1 rfl<|O.nil<|S.seq<|S.seq<|S.region rfl<|O.q 1 rfl<|O.op (.p rfl) (.len rfl underlying53 rfl)<|O.q 1 rfl<|O.nil<|S.block<|S.jT (ι:=Nat) (dI:=Option Addr × Nat) (fun i u=>i≤ps.length) (fun i u=>[(12,.int .i64 (i:Int)),(7,.slice u.1 (dh L F (ps.take i)).length u.2)]) [(0,_),(1,_),(10,_),(11,_)] (fun i u=>[cN aJ 89 d bh s L peer cm (W++dh L F (ps.take i)) F (n+(dh L F (ps.take i)).length),av ag.str 9 (.slice u.1 (dh L F (ps.take i)).length u.2) (dh L F (ps.take i))]) (fun i u=>ps.length - i) (0) ((none,0)) bI (.cons rfl (.cons rfl (.nil))) (.cons rfl (.cons rfl (.cons rfl (.cons rfl (.nil))))) rfl fun i u hx ih=>?_;have aX:=cL (g:=g);refine S.seq<|S.region rfl<|O.op (.p rfl) (.lss rfl rfl)<|O.nil (S.seq ?_)
 first|refine S.cc rfl (fun iW=>?_) (fun iW=>?_)|refine S.b7 rfl (fun iW=>?_) (fun iW=>?_)
 ·have hi:i<ps.length:=by omega
  have Pw:i<xs.length:=by omega
  have qX:xs[i]=F ps[i]:=by subst hxs;exact List.getElem_map ..
  have hpi:=hps _ (List.getElem_mem hi);have DF:=hlen _ (List.getElem_mem Pw);have hal:=GA L F (ps.take i);have jF:(ps.take i).length=i:=by rw [List.length_take];omega
  have hni:ps[i] ∉ W++dh L F (ps.take i):=Ty hi dy PL fun p hp=>(GB.1 hp).1;refine S.open (bs:=fun x:lQ (W++dh L F (ps.take i)) F=>jV aJ 89 d x.k bh x.bH x.mp s L peer cm (n+(dh L F (ps.take i)).length) x.M x.c) ai (fun m h=>cN.jq h) fun x=>?_;simp only [jV,List.cons_append,List.nil_append]
  by_cases q:jX L ps[i]=F ps[i]
  ·have e:=Md (L:=L) (F:=F) hi (by rw [Lb];exact q)
   refine S.skip<|S.seq<|S.block<|S.seq<|S.region rfl<|O.q 1 rfl<|O.b8 (.p rfl) underlying53 gG rfl rfl (show _=(((i):Nat):Int) by omega) (hp) (h:=fun yh wQ hU k3=>?_);obtain ⟨rfl,_⟩:=k3;refine O.op (.p rfl) (.loadAt bL rfl hU rfl) ?_;refine O.q 2 rfl<|O.nil<|S.seq<|S.bB (L:=[0,1,2,4,5,6,7,8,3,9]) bA aa ?_;refine af.q 1 rfl<|.quiet (.p rfl) rfl (fun _=>.nilCheck rfl)<|.quiet (.p rfl) rfl (fun _=>.aD vj rfl)<|af.q 3 rfl<|af.b8 (.p rfl) underlying109 uo rfl rfl (show _=(((i):Nat):Int) by omega) (ha) (h:=fun yj wR mb pz=>?_);obtain ⟨v24,rfl,rR⟩:=pz;obtain ⟨a24,k_,rfl⟩:=rR.shape;refine .quiet (.p rfl) rfl (fun _=>.loadAt bc rfl mb rfl) ?_;refine af.cu (.p rfl) aa (fun _=>.r_ (news:=[.pointer (some ⟨x.bH,0,none⟩)]) isAgg85 aa aK ai aK) ?_;refine af.bM (.p rfl) aa rfl aa rfl rfl ai (FB (p:=ps[i]) (xs:=xs[i]) hT rR ah) ?_;rintro _ _ ⟨rfl,rfl⟩
   try simp only [an,aq,au]
   refine af.aN 26 rfl (by simp [qX,q]) ?_;refine aI.nil<|S.aQ rfl<|S.skip<|S.inBlock<|S.region rfl<|O.op (.p rfl) (.add rfl rfl (IntWalk.i64_in _ ah))<|O.q 1 rfl<|O.nil<|S.cB (A:=cN aJ 89 d bh s L peer cm (W++dh L F (ps.take i)) F (n+(dh L F (ps.take i)).length)) (bs:=jV aJ 89 d x.k bh x.bH x.mp s L peer cm (n+(dh L F (ps.take i)).length) x.M x.c) bf (fun m h=>cN.fold x h) ?_;refine S.cB (A:=cN aJ 89 d bh s L peer cm (W++dh L F (ps.take (i+1))) F (n+(dh L F (ps.take (i+1))).length)) (bs:=[cN aJ 89 d bh s L peer cm (W++dh L F (ps.take i)) F (n+(dh L F (ps.take i)).length)]) bf (fun m h=>Fa (cN.up h) (by rw [e]) (by rw [e])) ?_;refine S.jr (T:=ag.str) (e:=9) (v' :=.slice u.1 (dh L F (ps.take (i+1))).length u.2) (xs' :=dh L F (ps.take (i+1))) ai (by rw [e]) e.symm ?_;refine S.slot 7 (v' :=.slice u.1 (dh L F (ps.take (i+1))).length u.2) rfl (by rw [e]) ?_;exact S.pw (ih (i+1) (u) ah ah)
  ·have e:=Me (L:=L) (F:=F) hi (by rw [Lb];exact q)
   refine S.skip<|S.seq<|S.block<|S.seq<|S.region rfl<|O.q 1 rfl<|O.b8 (.p rfl) underlying53 gG rfl rfl (show _=(((i):Nat):Int) by omega) (hp) (h:=fun yh wQ hU k3=>?_);obtain ⟨rfl,_⟩:=k3;refine O.op (.p rfl) (.loadAt bL rfl hU rfl) ?_;refine O.q 2 rfl<|O.nil<|S.seq<|S.bB (L:=[0,1,2,4,5,6,7,8,3,9]) bA aa ?_;refine af.q 1 rfl<|.quiet (.p rfl) rfl (fun _=>.nilCheck rfl)<|.quiet (.p rfl) rfl (fun _=>.aD vj rfl)<|af.q 3 rfl<|af.b8 (.p rfl) underlying109 uo rfl rfl (show _=(((i):Nat):Int) by omega) (ha) (h:=fun yj wR mb pz=>?_);obtain ⟨v24,rfl,rR⟩:=pz;obtain ⟨a24,k_,rfl⟩:=rR.shape;refine .quiet (.p rfl) rfl (fun _=>.loadAt bc rfl mb rfl) ?_;refine af.cu (.p rfl) aa (fun _=>.r_ (news:=[.pointer (some ⟨x.bH,0,none⟩)]) isAgg85 aa aK ai aK) ?_;refine af.bM (.p rfl) aa rfl aa rfl rfl ai (FB (p:=ps[i]) (xs:=xs[i]) hT rR ah) ?_;rintro _ _ ⟨rfl,rfl⟩
   try simp only [an,aq,au]
   refine af.sT 26 rfl (by simp [qX,q]) ?_;refine aI.nil<|S.bx rfl<|S.seq ?_;have fq:=hg;have fp:=hR
   try have qK:=hT
   try have nF:=ha
   try have D1:=hp
   try have P_:=hU
   try have Qc:=mb
   refine S.iD (B:=obj bh 89 [.pointer (some ⟨x.bH,0,none⟩),.map (some x.mp),.int .i64 ((n+(dh L F (ps.take i)).length:Nat):Int),.int .i64 peer,.bool cm]) ai fun go cI ⟨qf,hmo,jE⟩ eT=>?_;replace hg:=Fr.aH hg cI;replace hR:=iy hR eT
   try replace hT:=hT.mono cI
   try replace ha:=ha.mono cI
   try replace hp:=hp.mono cI
   try replace hU:=hU.mono cI
   try replace mb:=mb.mono cI
   have dm:=(gf hmo).mono jE;refine S.bB (L:=[0,1,2,3,4,5,6,7,8,9,10,11]) bA aa ?_;refine af.q 1 rfl<|.quiet (.p rfl) rfl (fun _=>.nilCheck rfl)<|.quiet (.p rfl) rfl (fun _=>.fieldAddr rO rfl)<|.quiet (.p rfl) rfl (fun _=>.fieldAddr w6 rfl)<|.quiet (.p rfl) rfl (fun _=>.loadAt lW rfl (dm.drop 1) rfl) ?_;refine af.q 3 rfl<|af.b8 (.p rfl) underlying109 uo rfl rfl (show _=(((i):Nat):Int) by omega) (ha) (h:=fun Z_ Ye Qf QA=>?_);obtain ⟨v35,rfl,Ib⟩:=QA;obtain ⟨a35,BY,rfl⟩:=Ib.shape;refine .quiet (.p rfl) rfl (fun _=>.loadAt bc rfl Qf rfl) ?_;refine af.aB (.p rfl) aa rfl aa rfl rfl ((eE Ib ah)) ?_;rintro _ _ ⟨a37,wJ,rfl,rfl⟩
   try simp only [an,aq,au]
   refine af.sg rfl aa underlying75 (qa underlying9) rfl rfl rfl ai ?_;refine aI.nil<|S.seq<|S.back eT ?_;replace hg:=fq;replace hR:=fp
   try replace hT:=qK
   try replace ha:=nF
   try replace hp:=D1
   try replace hU:=P_
   try replace mb:=Qc
   clear fq fp;refine S.region rfl<|O.q 1 rfl<|O.op (.p rfl) (.nilCheck rfl)<|O.op (.p rfl) (.aD rO rfl)<|O.op (.p rfl) (.aD CG rfl)<|O.op (.p rfl) (.lo cv) ?_;refine O.op (.p rfl) (.add rfl rfl (IntWalk.i64_in _ ah))<|O.op (.p rfl) (.nilCheck rfl)<|O.op (.p rfl) (.aD rO rfl)<|O.op (.p rfl) (.aD CG rfl)<|O.bu rfl (.bn cv rfl rfl bq ai aW) ?_;refine O.nil<|S.region rfl<|O.q 2 rfl<|O.aM (.p rfl) (.ct (T:=ag.str) (ys:=[_]) underlying53 gY aC rfl rfl ⟨⟨rfl,by first|omega|(simp;done)|(simp;omega)|decide⟩,trivial⟩ aC) ?_;rintro _ _ ⟨a49,u4,rfl,rfl⟩;refine O.aM (.p rfl) (.gT (T:=ag.str) underlying53 gY aC rfl rfl ai ai bJ bJ) ?_;rintro _ _ ⟨a50,nu,rfl,rfl⟩;refine O.q 1 rfl<|O.nil<|S.inBlock<|S.cB (A:=cN aJ 89 d bh s L peer cm (W++dh L F (ps.take (i+1))) F (n+(dh L F (ps.take (i+1))).length)) (bs:=[jK x.k,av ag.u8 5 (.slice a37 xs[i].length wJ) xs[i],obj bh 89 [.pointer (some ⟨x.bH,0,none⟩),.map (some x.mp),.int .i64 ((n+(dh L F (ps.take i)).length+1:Nat):Int),.int .i64 peer,.bool cm],bl aJ d x.bH s L,ck encS x.mp (iI x.M x.c ps[i] (.slice a37 xs[i].length wJ)) (kT x.M x.c ps[i])]) bf (fun m h=>Fa (cN.put x hni qX h) (by rw [e,List.append_assoc]) (by rw [e,List.length_append];rfl)) ?_
   refine S.jr (T:=ag.str) (e:=9) (v' :=.slice a50 (dh L F (ps.take (i+1))).length nu) (xs' :=dh L F (ps.take (i+1))) ai (by rw [e,List.length_append]) e.symm ?_;refine S.slot 7 (v' :=.slice a50 (dh L F (ps.take (i+1))).length nu) rfl (by rw [e,List.length_append]) ?_;refine S.region rfl<|O.op (.p rfl) (.add rfl rfl (IntWalk.i64_in _ ah))<|O.q 1 rfl<|O.nil ?_;exact S.pw (ih (i+1) ((a50,nu)) ah ah)
 ·clear ih
  have hi:i=ps.length:=by omega
  subst hi;rw [List.take_length];refine S.exit rfl<|S.seq<|S.region rfl<|O.q 2 rfl<|O.nil ?_;exact S.rt results123 rfl hR ⟨u.1,u.2,rfl,rfl⟩
end Go.Proofs.YtojafegjlahajaaGreatDoor
