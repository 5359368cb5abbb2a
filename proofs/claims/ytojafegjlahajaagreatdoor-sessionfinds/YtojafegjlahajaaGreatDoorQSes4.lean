/- Texts of this proof. -/
import Derived.Test.YtojafegjlahajaaGreatDoorQSes3
import Derived.Test.YtojafegjlahajaaGreatDoorQSpPull
open Go Go.Sp Go.Proofs.Tryz
set_option maxRecDepth 100000
set_option maxHeartbeats 1000000
attribute [local irreducible] obj Own av
namespace Go.Proofs.YtojafegjlahajaaGreatDoor
attribute [local irreducible] bN bw
theorem LI (L:List aD) (p:List UInt8):ry L p=jB L p:=rfl
theorem T8 {ps W:List (List UInt8)} {i:Nat} (h:i<ps.length) (hn:ps.Nodup) (hw:∀ p∈ps,p ∉ W) {l:List (List UInt8)} (hl:∀ p∈l,p∈ps.take i):ps[i] ∉ W++l:=fun q=>by
 rcases List.mem_append.1 q with u|u
 ·exact hw _ (List.getElem_mem h) u
 ·obtain ⟨j,hj,e⟩:=List.mem_iff_getElem.1 (hl _ u)
  rw [List.getElem_take] at e;rw [List.length_take] at hj;exact absurd ((List.nodup_iff_pairwise_ne.1 hn |>List.pairwise_iff_getElem.1) j i ah h ah) (by simpa using e)
theorem Fz {d:Fr} {aZ s n n' :Nat} {L:List aD} {peer:Int} {cg:Bool} {W W' :List (List UInt8)} {F:List UInt8→List UInt8} {m:Fr} (h:cc aF 89 d aZ s L peer cg W F n m) (e:W=W') (e2:n=n'):cc aF 89 d aZ s L peer cg W' F n' m:=e ▸ e2 ▸ h
theorem Lc {r d:Fr} {aZ s n:Nat} {L:List aD} {peer:Int} {cg:Bool} {va yJ:Value} {xs ps W:List (List UInt8)} {F:List UInt8→List UInt8} (hT:fR r d s L) (ha:aj (ag.slice ag.u8) r va xs) (hp:aj ag.str r yJ ps) (hxs:xs=ps.map F) (hps:∀ p∈ps,p.length≤1000000) (hlen:∀ x∈xs,x.length≤1000000) (dy:ps.Nodup) (Qf:∀ p∈ps,p ∉ W) (nN:ps.length≤1000) (hn:n≤1000000000) :
  ay prog 123 #[.pointer (some ⟨aZ,0,none⟩),va,yJ] r [cc aF 89 d aZ s L peer cg W F n] (aL fun v U=>∃ a c,v=.slice a (c7 L F ps).length c∧U=[cc aF 89 d aZ s L peer cg (W++c7 L F ps) F (n+(c7 L F ps).length),av ag.str 9 (.slice a (c7 L F ps).length c) (c7 L F ps)]):=by
 have hxl:xs.length=ps.length:=by rw [hxs,List.length_map]
 obtain ⟨a1,c1,rfl⟩:=ha.shape;obtain ⟨a2,c2,rfl⟩:=hp.shape;refine ay.of (n:=53) _ rfl func123 rfl rfl rfl fun g hg R hR=>?_;have hT:=hT.mono hg;have ha:=ha.mono hg;have hp:=hp.mono hg;refine S.gd (T:=ag.str) (e:=9) ?_;refine S.ct (A:=cc aF 89 d aZ s L peer cg (W++c7 L F (ps.take 0)) F (n+(c7 L F (ps.take 0)).length)) (bs:=[cc aF 89 d aZ s L peer cg W F n]) aW (fun m h=>Fz (cc.up h) (List.append_nil W).symm rfl) ?_;refine S.seq<|S.region rfl<|O.q 1 rfl<|O.nil<|S.seq<|S.region rfl<|O.q 1 rfl<|O.nil<|S.seq<|S.seq<|S.region rfl<|O.q 1 rfl<|O.op (.p rfl) (.len rfl underlying53 rfl)<|O.q 1 rfl<|O.nil<|S.block<|S.jO (ι:=Nat) (dJ:=Option Addr × Nat) (fun i u=>i≤ps.length) (fun i u=>[(12,.int .i64 (i:Int)),(7,.slice u.1 (c7 L F (ps.take i)).length u.2)]) [(0,_),(1,_),(10,_),(11,_)] (fun i u=>[cc aF 89 d aZ s L peer cg (W++c7 L F (ps.take i)) F (n+(c7 L F (ps.take i)).length),av ag.str 9 (.slice u.1 (c7 L F (ps.take i)).length u.2) (c7 L F (ps.take i))]) (fun i u=>ps.length - i) (0) ((none,0)) bL (.cons rfl (.cons rfl (.nil))) (.cons rfl (.cons rfl (.cons rfl (.cons rfl (.nil))))) rfl fun i u hx ih=>?_;have bh:=cH (g:=g);refine S.seq<|S.region rfl<|O.op (.p rfl) (.lss rfl rfl)<|O.nil (S.seq ?_)
 first|refine S.cm rfl (fun iU=>?_) (fun iU=>?_)|refine S.b_ rfl (fun iU=>?_) (fun iU=>?_)
 ·have hi:i<ps.length:=by omega
  have P3:i<xs.length:=by omega
  have qX:xs[i]=F ps[i]:=by subst hxs;exact List.getElem_map ..
  have hpi:=hps _ (List.getElem_mem hi);have DW:=hlen _ (List.getElem_mem P3);have hal:=GZ L F (ps.take i);have jx:(ps.take i).length=i:=by rw [List.length_take];omega
  have hni:ps[i] ∉ W++c7 L F (ps.take i):=T8 hi dy Qf fun p hp=>(uZ.1 hp).1;refine S.open (bs:=fun x:kp (W++c7 L F (ps.take i)) F=>iC aF 89 d x.k aZ x.bI x.mp s L peer cg (n+(c7 L F (ps.take i)).length) x.M x.c) ai (fun m h=>cc.jc h) fun x=>?_;simp only [iC,List.cons_append,List.nil_append]
  by_cases q:jB L ps[i]=F ps[i]
  ·have e:=MF (L:=L) (F:=F) hi (by rw [LI];exact q)
   refine S.skip<|S.seq<|S.block<|S.seq<|S.region rfl<|O.q 1 rfl<|O.bR (.p rfl) underlying53 gb rfl rfl (show _=(((i):Nat):Int) by omega) (hp) (h:=fun yj wO gW kZ=>?_);obtain ⟨rfl,_⟩:=kZ;refine O.op (.p rfl) (.loadAt bQ rfl gW rfl) ?_;refine O.q 2 rfl<|O.nil<|S.seq<|S.bC (L:=[0,1,2,4,5,6,7,8,3,9]) bz aa ?_;refine af.q 1 rfl<|.quiet (.p rfl) rfl (fun _=>.nilCheck rfl)<|.quiet (.p rfl) rfl (fun _=>.aH vl rfl)<|af.q 3 rfl<|af.bR (.p rfl) underlying109 uA rfl rfl (show _=(((i):Nat):Int) by omega) (ha) (h:=fun yl wP l9 px=>?_);obtain ⟨v24,rfl,rT⟩:=px;obtain ⟨a24,k9,rfl⟩:=rT.shape;refine .quiet (.p rfl) rfl (fun _=>.loadAt bl rfl l9 rfl) ?_;refine af.cC (.p rfl) aa (fun _=>.sk (news:=[.pointer (some ⟨x.bI,0,none⟩)]) isAgg85 aa aK ai aK) ?_;refine af.bM (.p rfl) aa rfl aa rfl rfl ai (FW (p:=ps[i]) (xs:=xs[i]) hT rT ah) ?_;rintro _ _ ⟨rfl,rfl⟩
   try simp only [an,aq,au]
   refine af.aM 26 rfl (by simp [qX,q]) ?_;refine aJ.nil<|S.aQ rfl<|S.skip<|S.inBlock<|S.region rfl<|O.op (.p rfl) (.add rfl rfl (IntWalk.i64_in _ ah))<|O.q 1 rfl<|O.nil<|S.ct (A:=cc aF 89 d aZ s L peer cg (W++c7 L F (ps.take i)) F (n+(c7 L F (ps.take i)).length)) (bs:=iC aF 89 d x.k aZ x.bI x.mp s L peer cg (n+(c7 L F (ps.take i)).length) x.M x.c) aW (fun m h=>cc.fold x h) ?_;refine S.ct (A:=cc aF 89 d aZ s L peer cg (W++c7 L F (ps.take (i+1))) F (n+(c7 L F (ps.take (i+1))).length)) (bs:=[cc aF 89 d aZ s L peer cg (W++c7 L F (ps.take i)) F (n+(c7 L F (ps.take i)).length)]) aW (fun m h=>Fz (cc.up h) (by rw [e]) (by rw [e])) ?_;refine S.jd (T:=ag.str) (e:=9) (v' :=.slice u.1 (c7 L F (ps.take (i+1))).length u.2) (xs' :=c7 L F (ps.take (i+1))) ai (by rw [e]) e.symm ?_;refine S.slot 7 (v' :=.slice u.1 (c7 L F (ps.take (i+1))).length u.2) rfl (by rw [e]) ?_;exact S.pw (ih (i+1) (u) ah ah)
  ·have e:=MG (L:=L) (F:=F) hi (by rw [LI];exact q)
   refine S.skip<|S.seq<|S.block<|S.seq<|S.region rfl<|O.q 1 rfl<|O.bR (.p rfl) underlying53 gb rfl rfl (show _=(((i):Nat):Int) by omega) (hp) (h:=fun yj wO gW kZ=>?_);obtain ⟨rfl,_⟩:=kZ;refine O.op (.p rfl) (.loadAt bQ rfl gW rfl) ?_;refine O.q 2 rfl<|O.nil<|S.seq<|S.bC (L:=[0,1,2,4,5,6,7,8,3,9]) bz aa ?_;refine af.q 1 rfl<|.quiet (.p rfl) rfl (fun _=>.nilCheck rfl)<|.quiet (.p rfl) rfl (fun _=>.aH vl rfl)<|af.q 3 rfl<|af.bR (.p rfl) underlying109 uA rfl rfl (show _=(((i):Nat):Int) by omega) (ha) (h:=fun yl wP l9 px=>?_);obtain ⟨v24,rfl,rT⟩:=px;obtain ⟨a24,k9,rfl⟩:=rT.shape;refine .quiet (.p rfl) rfl (fun _=>.loadAt bl rfl l9 rfl) ?_;refine af.cC (.p rfl) aa (fun _=>.sk (news:=[.pointer (some ⟨x.bI,0,none⟩)]) isAgg85 aa aK ai aK) ?_;refine af.bM (.p rfl) aa rfl aa rfl rfl ai (FW (p:=ps[i]) (xs:=xs[i]) hT rT ah) ?_;rintro _ _ ⟨rfl,rfl⟩
   try simp only [an,aq,au]
   refine af.sT 26 rfl (by simp [qX,q]) ?_;refine aJ.nil<|S.bx rfl<|S.seq ?_;have fq:=hg;have fp:=hR
   try have qL:=hT
   try have nK:=ha
   try have El:=hp
   try have QA:=gW
   try have QD:=l9
   refine S.iw (B:=obj aZ 89 [.pointer (some ⟨x.bI,0,none⟩),.map (some x.mp),.int .i64 ((n+(c7 L F (ps.take i)).length:Nat):Int),.int .i64 peer,.bool cg]) ai fun go cN ⟨qd,hmo,jw⟩ eV=>?_;replace hg:=Fr.aI hg cN;replace hR:=ig hR eV
   try replace hT:=hT.mono cN
   try replace ha:=ha.mono cN
   try replace hp:=hp.mono cN
   try replace gW:=gW.mono cN
   try replace l9:=l9.mono cN
   have dg:=(ga hmo).mono jw;refine S.bC (L:=[0,1,2,3,4,5,6,7,8,9,10,11]) bz aa ?_;refine af.q 1 rfl<|.quiet (.p rfl) rfl (fun _=>.nilCheck rfl)<|.quiet (.p rfl) rfl (fun _=>.fieldAddr qH rfl)<|.quiet (.p rfl) rfl (fun _=>.fieldAddr w5 rfl)<|.quiet (.p rfl) rfl (fun _=>.loadAt lW rfl (dg.drop 1) rfl) ?_;refine af.q 3 rfl<|af.bR (.p rfl) underlying109 uA rfl rfl (show _=(((i):Nat):Int) by omega) (ha) (h:=fun aa2 Y0 QG Q7=>?_);obtain ⟨v35,rfl,ID⟩:=Q7;obtain ⟨a35,Ce,rfl⟩:=ID.shape;refine .quiet (.p rfl) rfl (fun _=>.loadAt bl rfl QG rfl) ?_;refine af.aC (.p rfl) aa rfl aa rfl rfl ((eG ID ah)) ?_;rintro _ _ ⟨a37,wH,rfl,rfl⟩
   try simp only [an,aq,au]
   refine af.sn rfl aa underlying75 (q3 underlying9) rfl rfl rfl ai ?_;refine aJ.nil<|S.seq<|S.back eV ?_;replace hg:=fq;replace hR:=fp
   try replace hT:=qL
   try replace ha:=nK
   try replace hp:=El
   try replace gW:=QA
   try replace l9:=QD
   clear fq fp;refine S.region rfl<|O.q 1 rfl<|O.op (.p rfl) (.nilCheck rfl)<|O.op (.p rfl) (.aH qH rfl)<|O.op (.p rfl) (.aH zG rfl)<|O.op (.p rfl) (.lo cz) ?_;refine O.op (.p rfl) (.add rfl rfl (IntWalk.i64_in _ ah))<|O.op (.p rfl) (.nilCheck rfl)<|O.op (.p rfl) (.aH qH rfl)<|O.op (.p rfl) (.aH zG rfl)<|O.bB rfl (.bp cz rfl rfl bt ai aX) ?_;refine O.nil<|S.region rfl<|O.q 2 rfl<|O.aN (.p rfl) (.cA (T:=ag.str) (ys:=[_]) underlying53 gv aB rfl rfl ⟨⟨rfl,by first|omega|(simp;done)|(simp;omega)|decide⟩,trivial⟩ aB) ?_;rintro _ _ ⟨a49,u6,rfl,rfl⟩;refine O.aN (.p rfl) (.gN (T:=ag.str) underlying53 gv aB rfl rfl ai ai bD bD) ?_;rintro _ _ ⟨a50,nv,rfl,rfl⟩;refine O.q 1 rfl<|O.nil<|S.inBlock<|S.ct (A:=cc aF 89 d aZ s L peer cg (W++c7 L F (ps.take (i+1))) F (n+(c7 L F (ps.take (i+1))).length)) (bs:=[jq x.k,av ag.u8 5 (.slice a37 xs[i].length wH) xs[i],obj aZ 89 [.pointer (some ⟨x.bI,0,none⟩),.map (some x.mp),.int .i64 ((n+(c7 L F (ps.take i)).length+1:Nat):Int),.int .i64 peer,.bool cg],aY aF d x.bI s L,cu encS x.mp (iD x.M x.c ps[i] (.slice a37 xs[i].length wH)) (kR x.M x.c ps[i])]) aW (fun m h=>Fz (cc.put x hni qX h) (by rw [e,List.append_assoc]) (by rw [e,List.length_append];rfl)) ?_
   refine S.jd (T:=ag.str) (e:=9) (v' :=.slice a50 (c7 L F (ps.take (i+1))).length nv) (xs' :=c7 L F (ps.take (i+1))) ai (by rw [e,List.length_append]) e.symm ?_;refine S.slot 7 (v' :=.slice a50 (c7 L F (ps.take (i+1))).length nv) rfl (by rw [e,List.length_append]) ?_;refine S.region rfl<|O.op (.p rfl) (.add rfl rfl (IntWalk.i64_in _ ah))<|O.q 1 rfl<|O.nil ?_;exact S.pw (ih (i+1) ((a50,nv)) ah ah)
 ·clear ih
  have hi:i=ps.length:=by omega
  subst hi;rw [List.take_length];refine S.exit rfl<|S.seq<|S.region rfl<|O.q 2 rfl<|O.nil ?_;exact S.rt results123 rfl hR ⟨u.1,u.2,rfl,rfl⟩
end Go.Proofs.YtojafegjlahajaaGreatDoor
