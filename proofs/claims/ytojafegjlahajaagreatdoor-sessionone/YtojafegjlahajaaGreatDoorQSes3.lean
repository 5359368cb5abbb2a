/- Texts of this proof. -/
import Derived.Test.YtojafegjlahajaaGreatDoorQTree6
open Go Go.Sp Go.Proofs.Tryz
set_option maxRecDepth 100000
set_option maxHeartbeats 1000000
attribute [local irreducible] obj Own av
namespace Go.Proofs.YtojafegjlahajaaGreatDoor
attribute [local irreducible] cF bA
theorem Ea {d:Fr} {s:Nat} {L:List aH}:∀ n,A2 d s L n
 |0=>Jh fun k hk=>by omega
 |n+1=>Jh fun k hk=>by
  have e:k=n:=by omega
  subst e;exact Ku (Ea k)
theorem UZ {d:Fr} {s:Nat} {L:List aH} (n:Nat):vL d s L n:=Ku (Ea n)
noncomputable def jJ (L:List aH) (p:List UInt8):List UInt8:=if kD p then bA L p else []
theorem pX {r d:Fr} {b s:Nat} {L:List aH} {p:List UInt8} (hT:gH r d s L) (hl:p.length≤9223372036854775807) :
  ay prog 33 #[.pointer (some ⟨b,0,none⟩),.string (str p)] r [bp aJ d b s L] (aM fun v U=>∃ a c,v=.slice a (jJ L p).length c∧U=[bp aJ d b s L,av ag.u8 5 (.slice a (jJ L p).length c) (jJ L p)]):=by
 refine ay.of (n:=26) _ rfl func33 rfl rfl rfl fun g hg R hR=>?_;have hT:=hT.mono hg;have hbL:L.length≤10000000:=hT.small.1
 by_cases hp:kD p
 ·have e:jJ L p=bA L p:=by unfold jJ;rw [if_pos hp]
  have ig:=qT hT.ok p;have mz:=hp.1;have nZ:=AH L p (List.range L.length);rw [List.length_range] at nZ;have nU:gf L (fp L p (List.range L.length))=dG p L:=by rw [yp L p _ (vl L),JJ]
  rw [e] at hR;refine S.seq<|S.region rfl<|O.q 1 rfl<|O.nil<|S.seq<|S.seq<|S.region rfl<|O.q 1 rfl<|O.cU (.p rfl) rfl aa rfl rfl (bs:=[bp aJ d b s L]) aV (fun m hm hd=>qS (bp.jF hT.hd hd hm)) ?_;rintro _ _ ⟨rfl,rfl⟩
  try simp only [an,aq,au]
  refine O.sT 6 rfl aG ?_;refine O.op (.p rfl) (.not rfl)<|O.q 2 rfl<|O.aC (.g rfl rfl) rfl aa rfl rfl ((zP hl)) ?_;rintro _ _ ⟨rfl,rfl⟩
  try simp only [an,aq,au]
  refine O.sT 10 rfl (by exact decide_eq_true hp) ?_;refine O.op (.g rfl rfl) (.not rfl)<|O.q 1 rfl<|O.nil<|S.aP rfl<|S.skip<|S.seq<|S.bB (L:=[0,1,2,3,4,5,6,7,8,9,10,11,12,13]) bx aa<|af.q 3 rfl<|.quiet (.p rfl) rfl (fun _=>.nilCheck rfl)<|.quiet (.p rfl) rfl (fun _=>.fieldAddr mq rfl)<|af.q 2 rfl<|.quiet (.p rfl) rfl (fun _=>.nilCheck rfl)<|.quiet (.p rfl) rfl (fun _=>.fieldAddr mq rfl)<|af.cU (.p rfl) aa rfl aa rfl rfl (bs:=[bp aJ d b s L]) aV (fun m hm hd=>FN (bp.jF hT.hd hd hm) hbL) ?_;rintro _ _ ⟨a22,dZ,rfl,rfl⟩
  try simp only [an,aq,au]
  refine af.cU (.p rfl) aa rfl aa rfl rfl (bs:=[bp aJ d b s L,av ag.nat 3 (.slice a22 L.length dZ) (List.range L.length)]) aV (fun m hm hd=>E8 (bp.jF hT.hd hd hm) ((Jr hm).mono (Fr.dA hd)) (vl L) hl bX) ?_;rintro _ _ ⟨a23,Bt,rfl,rfl⟩
  try simp only [an,aq,au]
  refine af.eL (.p rfl) aa rfl aa rfl rfl (bs:=[bp aJ d b s L,av ag.nat 3 (.slice a23 (fp L p (List.range L.length)).length Bt) (fp L p (List.range L.length))]) aV (ay.tv (U:=[bp aJ d b s L]) (bs:=[av ag.nat 3 (.slice a23 (fp L p (List.range L.length)).length Bt) (fp L p (List.range L.length))]) (fun m hm hd=>UZ (510 - p.length) (hT.mono (Fr.cw _ _)) ah hp ((tH hm).mono (Fr.dA hd)) (E6 (vl L)) ah nU)) ?_;rintro _ _ ⟨a24,kT,rfl,rfl⟩
  try simp only [an,aq,au]
  refine af.cU (.p rfl) aa rfl aa rfl rfl (bs:=[je aJ d b s L (.slice a24 64 kT) (bA L p)]) aV (fun m hm hd=>er (je.jF hT.hd hd hm) ah) ?_;rintro _ _ ⟨a25,qb,rfl,rfl⟩
  try simp only [an,aq,au]
  refine af.q 1 rfl<|aK.nil<|S.cg (A:=bp aJ d b s L) (bs:=[je aJ d b s L (.slice a24 64 kT) (bA L p)]) aV (fun m h=>je.toX h) ?_;exact S.rt results33 rfl hR ⟨a25,qb,rfl,rfl⟩
 ·have e:jJ L p=[]:=by unfold jJ;rw [if_neg hp]
  rw [e] at hR;refine S.seq<|S.region rfl<|O.q 1 rfl<|O.nil<|S.seq<|S.seq<|S.region rfl<|O.q 1 rfl<|O.cU (.p rfl) rfl aa rfl rfl (bs:=[bp aJ d b s L]) aV (fun m hm hd=>qS (bp.jF hT.hd hd hm)) ?_;rintro _ _ ⟨rfl,rfl⟩
  try simp only [an,aq,au]
  refine O.sT 6 rfl aG ?_;refine O.op (.p rfl) (.not rfl)<|O.q 2 rfl<|O.aC (.g rfl rfl) rfl aa rfl rfl ((zP hl)) ?_;rintro _ _ ⟨rfl,rfl⟩
  try simp only [an,aq,au]
  refine O.aL 10 rfl (by exact decide_eq_false hp) ?_;refine O.op (.g rfl rfl) (.not rfl)<|O.q 1 rfl<|O.nil<|S.bC rfl<|S.seq<|S.region rfl<|O.q 1 rfl<|O.nil<|S.gd (T:=ag.u8) (e:=5) ?_;exact S.rt results33 rfl hR ⟨none,0,rfl,rfl⟩
abbrev Jc:dJ:=(0,[],[],[],())
noncomputable def k6 (L:List aH) (p:List UInt8):dJ:=if kD p then cF L p else Jc
noncomputable def xG (p:List UInt8):Int:=if kD p then 0 else 2
theorem U3 {r d:Fr} {b s:Nat} {L:List aH} {p:List UInt8} (hT:gH r d s L) (hl:p.length≤9223372036854775807) :
  ay prog 34 #[.pointer (some ⟨b,0,none⟩),.string (str p)] r [bp aJ d b s L] (aM fun v U=>∃ a1 k1 a2 k2 a3 aR,v=.tuple #[.agg #[bH (k6 L p).1,.slice a1 (k6 L p).2.1.length k1,.slice a2 (k6 L p).2.2.1.length k2,.slice a3 (k6 L p).2.2.2.1.length aR],.int .i64 (xG p)] ∧
   U=[bp aJ d b s L,av ag.u8 5 (.slice a1 (k6 L p).2.1.length k1) (k6 L p).2.1,av ag.u8 5 (.slice a2 (k6 L p).2.2.1.length k2) (k6 L p).2.2.1,c_ (ef cS) 31 (.slice a3 (k6 L p).2.2.2.1.length aR) (k6 L p).2.2.2.1]):=by
 refine ay.of (n:=28) _ rfl func34 rfl rfl rfl fun g hg R hR=>?_;have hT:=hT.mono hg;have hbL:L.length≤10000000:=hT.small.1
 by_cases hp:kD p
 ·have e:k6 L p=cF L p:=by unfold k6;rw [if_pos hp]
  have e2:xG p=0:=by unfold xG;rw [if_pos hp]
  have mz:=hp.1;have nZ:=AH L p (List.range L.length);rw [List.length_range] at nZ;have nU:gf L (fp L p (List.range L.length))=dG p L:=by rw [yp L p _ (vl L),JJ]
  rw [e,e2] at hR;refine S.seq<|S.region rfl<|O.aO (.p rfl) (.alloc (cs:=[.int .u8 0,.slice none 0 0,.slice none 0 0,.slice none 0 0]) zeroValue27 rfl) ?_;rintro _ _ ⟨b4,rfl,rfl⟩;refine O.q 1 rfl<|O.nil<|S.seq<|S.block<|S.seq<|S.region rfl<|O.q 1 rfl<|O.cU (.p rfl) rfl aa rfl rfl (bs:=[bp aJ d b s L]) aV (fun m hm hd=>qS (bp.jF hT.hd hd hm)) ?_;rintro _ _ ⟨rfl,rfl⟩
  try simp only [an,aq,au]
  refine O.sT 8 rfl aG ?_;refine O.op (.p rfl) (.not rfl)<|O.q 1 rfl<|O.nil<|S.aP rfl<|S.seq<|S.region rfl<|O.q 1 rfl<|O.aC (.p rfl) rfl aa rfl rfl ((zP hl)) ?_;rintro _ _ ⟨rfl,rfl⟩
  try simp only [an,aq,au]
  refine O.sT 13 rfl (by exact decide_eq_true hp) ?_;refine O.op (.p rfl) (.not rfl)<|O.q 1 rfl<|O.nil<|S.aP rfl<|S.skip<|S.inBlock<|S.seq<|S.bB (L:=[0,1,2,3,4,5,6,7,8,9,10,11,12,13]) bx aa<|af.q 3 rfl<|.quiet (.p rfl) rfl (fun _=>.nilCheck rfl)<|.quiet (.p rfl) rfl (fun _=>.fieldAddr mq rfl)<|af.q 2 rfl<|.quiet (.p rfl) rfl (fun _=>.nilCheck rfl)<|.quiet (.p rfl) rfl (fun _=>.fieldAddr mq rfl)<|af.cU (.p rfl) aa rfl aa rfl rfl (bs:=[bp aJ d b s L]) aV (fun m hm hd=>FN (bp.jF hT.hd hd hm) hbL) ?_;rintro _ _ ⟨a25,qb,rfl,rfl⟩
  try simp only [an,aq,au]
  refine af.cU (.p rfl) aa rfl aa rfl rfl (bs:=[bp aJ d b s L,av ag.nat 3 (.slice a25 L.length qb) (List.range L.length)]) aV (fun m hm hd=>E8 (bp.jF hT.hd hd hm) ((Jr hm).mono (Fr.dA hd)) (vl L) hl bX) ?_;rintro _ _ ⟨a26,h_,rfl,rfl⟩
  try simp only [an,aq,au]
  refine af.eL (.p rfl) aa rfl aa rfl rfl (bs:=[bp aJ d b s L,av ag.nat 3 (.slice a26 (fp L p (List.range L.length)).length h_) (fp L p (List.range L.length))]) aV (ay.tv (U:=[bp aJ d b s L]) (bs:=[av ag.nat 3 (.slice a26 (fp L p (List.range L.length)).length h_) (fp L p (List.range L.length))]) (fun m hm hd=>Ea (510 - p.length) (hT.mono (Fr.cw _ _)) ah hp ((tH hm).mono (Fr.dA hd)) (E6 (vl L)) ah nU)) ?_;rintro _ _ ⟨q1,d1,q2,d2,cH,d3,rfl,rfl⟩
  try simp only [an,aq,au]
  refine af.cZ rfl aa aa rfl rfl rfl rfl ai aT ?_;refine af.q 1 rfl<|aK.nil<|S.r5 results34 rfl rfl ai (fM.agg isAgg27 aa) fun w hw=>Holds.end_ hR hw ?_;exact pk ⟨q1,d1,q2,d2,cH,d3,rfl,rfl⟩
 ·have e:k6 L p=Jc:=by unfold k6;rw [if_neg hp]
  have e2:xG p=2:=by unfold xG;rw [if_neg hp]
  rw [e,e2] at hR;refine S.seq<|S.region rfl<|O.aO (.p rfl) (.alloc (cs:=[.int .u8 0,.slice none 0 0,.slice none 0 0,.slice none 0 0]) zeroValue27 rfl) ?_;rintro _ _ ⟨b4,rfl,rfl⟩;refine O.q 1 rfl<|O.nil<|S.seq<|S.block<|S.seq<|S.region rfl<|O.q 1 rfl<|O.cU (.p rfl) rfl aa rfl rfl (bs:=[bp aJ d b s L]) aV (fun m hm hd=>qS (bp.jF hT.hd hd hm)) ?_;rintro _ _ ⟨rfl,rfl⟩
  try simp only [an,aq,au]
  refine O.sT 8 rfl aG ?_;refine O.op (.p rfl) (.not rfl)<|O.q 1 rfl<|O.nil<|S.aP rfl<|S.seq<|S.region rfl<|O.q 1 rfl<|O.aC (.p rfl) rfl aa rfl rfl ((zP hl)) ?_;rintro _ _ ⟨rfl,rfl⟩
  try simp only [an,aq,au]
  refine O.aL 13 rfl (by exact decide_eq_false hp) ?_;refine O.op (.p rfl) (.not rfl)<|O.q 1 rfl<|O.nil<|S.bC rfl<|S.seq<|S.region rfl<|O.op (.p rfl) (.build (cs:=[_,_,_,_]) underlying27 rfl rfl rfl rfl rfl)<|O.bw rfl (.cZ aa rfl rfl rfl rfl ai aT) ?_;refine O.q 1 rfl<|O.nil<|S.tC (ef cS) 31 ?_;refine S.gd (T:=ag.u8) (e:=5) ?_;refine S.gd (T:=ag.u8) (e:=5) ?_;refine S.r5 results34 rfl rfl ai (fM.agg isAgg27 aa) fun w hw=>Holds.end_ hR hw ?_;exact pk ⟨none,0,none,0,none,0,rfl,rfl⟩
theorem EZ {r d:Fr} {b s:Nat} {L:List aH} (hT:gH r d s L) (hs4:s<4) :
  ay prog 32 #[.pointer (some ⟨b,0,none⟩)] r [bp aJ d b s L] (aM fun v U=>∃ a c,v=.slice a 64 c∧U=[bp aJ d b s L,av ag.u8 5 (.slice a 64 c) (dw (s:Int) (bA L []))]):=by
 have e:jJ L []=bA L []:=by unfold jJ;rw [if_pos ⟨by simp,fun c hc=>by cases hc⟩]
 have ig:=qT hT.ok [];have ht:(dw (s:Int) (bA L [])).length=64:=by unfold dw;rw [if_pos ⟨by omega,by omega,ig⟩,o9]
 refine ay.of (n:=13) _ rfl func32 rfl rfl rfl fun g hg R hR=>?_;have hT:=hT.mono hg;refine S.seq<|S.region rfl<|O.q 1 rfl<|O.nil<|S.seq<|S.seq<|S.region rfl<|O.q 1 rfl<|O.cU (.p rfl) rfl aa rfl rfl (bs:=[bp aJ d b s L]) aV (fun m hm hd=>qS (bp.jF hT.hd hd hm)) ?_;rintro _ _ ⟨rfl,rfl⟩
 try simp only [an,aq,au]
 refine O.sT 4 rfl aG ?_;refine O.op (.p rfl) (.not rfl)<|O.nil<|S.aP rfl<|S.skip<|S.seq<|S.bB (L:=[0,1,2,4,3,5,6,7]) bx aa ?_;refine af.q 1 rfl<|.quiet (.p rfl) rfl (fun _=>.nilCheck rfl)<|.quiet (.p rfl) rfl (fun _=>.fieldAddr uF rfl)<|af.q 1 rfl<|af.eW 3 5 [5,6,7] [3,6,7] aa rfl rfl ?_ ?_
 ·refine bO.cr (.p rfl) aa (fun _=>.sk cv rfl ai) ?_
  refine af.bD (.p rfl) aa rfl aa rfl rfl ai (pX (p:=[]) hT bq) ?_;rintro _ _ ⟨kS,nL,rfl,rfl⟩
  try simp only [an,aq,au]
  rw [e,ig];refine af.cU (.p rfl) aa rfl aa rfl rfl (bs:=[av ag.u8 5 (.slice kS 64 nL) (bA L [])]) aV (fun m hm hd=>tW ((tH hm).mono (Fr.dA hd)) (⟨by omega,by omega⟩:cE (s:Int)) (hT.hH.mono (Fr.cw _ _)) (hT.hK.mono (Fr.cw _ _)) ah) ?_;rintro _ _ ⟨a12,jy,rfl,rfl⟩
  try simp only [an,aq,au]
  rw [ht];refine af.q 1 rfl<|aK.nil ?_;exact S.rt results32 rfl hR ⟨a12,jy,rfl,rfl⟩
 ·refine bO.bD (.p rfl) aa rfl aa rfl rfl ai (pX (p:=[]) hT bq) ?_
  rintro _ _ ⟨kS,nL,rfl,rfl⟩
  try simp only [an,aq,au]
  rw [e,ig];refine af.cr (.p rfl) aa (fun _=>.sk cv rfl ai) ?_;refine af.cU (.p rfl) aa rfl aa rfl rfl (bs:=[av ag.u8 5 (.slice kS 64 nL) (bA L [])]) aV (fun m hm hd=>tW ((tH hm).mono (Fr.dA hd)) (⟨by omega,by omega⟩:cE (s:Int)) (hT.hH.mono (Fr.cw _ _)) (hT.hK.mono (Fr.cw _ _)) ah) ?_;rintro _ _ ⟨a12,jy,rfl,rfl⟩
  try simp only [an,aq,au]
  rw [ht];refine af.q 1 rfl<|aK.nil ?_;exact S.rt results32 rfl hR ⟨a12,jy,rfl,rfl⟩
theorem U_ {b mid s:Nat} {m:Fr} (h:Sat [obj b 77 [.slice none 0 0,.slice none 0 0,.int .i64 (s:Int),.map (some mid)],cc encS mid [] 0] m):dS aJ Fr.emp Fr.emp b s [] m:=by
 obtain ⟨m1,m2,d,s1,s2,o,m3,m4,d2,s3,oh,x,_⟩:=h;exact ⟨.slice none 0 0,.slice none 0 0,mid,[],0,⟨gB.nil,iy.nil _ _ _⟩,m1,m2,d,s1,s2,o,Fr.emp,m2,Fr.dW _,Fr.c4 _,Fr.bW _,z6,Fr.emp,m2,Fr.dW _,Fr.c4 _,Fr.bW _,z6,m3,m4,d2,s3,oh,x,trivial⟩
theorem I_ {r:Fr} {s:Nat} (hs:s<4):ay prog 29 #[.int .i64 (s:Int)] r [] (aM fun v U=>∃ b mp,v=.pointer (some ⟨b,0,none⟩)∧U=[obj b 77 [.slice none 0 0,.slice none 0 0,.int .i64 (s:Int),.map (some mp)],cc encS mp [] 0]):=by
 refine ay.of (n:=13) _ rfl func29 rfl rfl rfl fun g hg R hR=>?_;refine S.seq<|S.region rfl<|O.q 1 rfl<|O.nil<|S.seq<|S.seq<|S.region rfl<|O.q 1 rfl<|O.op (.p rfl) (.lss rfl rfl)<|O.aL 4 rfl (by exact decide_eq_false ah) ?_;refine O.q 2 rfl<|O.op (.g rfl rfl) (.geq rfl rfl)<|O.aL 7 rfl (by exact decide_eq_false ah) ?_;refine O.q 1 rfl<|O.nil<|S.aP rfl<|S.skip<|S.seq<|S.region rfl<|O.q 1 rfl<|O.aO (.p rfl) (.o5 (enc:=encS)) ?_;rintro _ _ ⟨vS,rfl,rfl⟩;refine O.op (.p rfl) (.build (cs:=[_,_,_,_]) underlying77 rfl rfl rfl rfl rfl)<|O.aO (.p rfl) (.box (cs:=[_,_,_,_]) rfl rfl) ?_;rintro _ _ ⟨mV,rfl,rfl⟩;refine O.q 1 rfl<|O.nil ?_;exact S.rt results29 rfl hR ⟨mV,vS,rfl,rfl⟩
theorem RV {r:Fr} {s:Nat} (hs:s<4):ay prog 29 #[.int .i64 (s:Int)] r [] (aM fun v U=>∃ b,v=.pointer (some ⟨b,0,none⟩)∧U=[dS aJ Fr.emp Fr.emp b s []]) :=
 ay.post (I_ hs) fun e ax h w g hw=>by
  cases e with
  |returned v =>
   obtain ⟨b,mp,rfl,rfl⟩:=h;exact ⟨[dS aJ Fr.emp Fr.emp b s []],⟨b,rfl,rfl⟩,hw.imp fun m h=>⟨m,Fr.emp,Fr.eX (Fr.dW _),Fr.bW _,Fr.c4 _,U_ h,trivial⟩⟩
  |panicked _=>exact h.elim
  |outgrown=>exact h.elim
theorem Fc {d:Fr} {g:Fr} {b s mid c:Nat} {L:List aH} {c8 c9:Value} {M:List (b8 (List UInt8))} {m:Fr} (wf:gB M c) (ok:iy d Fr.emp L M) (hd:d.sub g) (hm:g.cI m)
  (h:Sat (bP.p4 aJ b s (⟨Fr.emp,c8,c9,mid,M,c,wf,ok⟩:bP d L)) m):kf (g.add m) b s L :=
 dS.a (k:=Fr.emp) (Fr.aI hd (Fr.cw _ _)) (Fr.c4 _) (Fr.dA hm) (dS.fold ⟨Fr.emp,c8,c9,mid,M,c,wf,ok⟩ h)
theorem IY {d:Fr} {b s mid c:Nat} {L:List aH} {M:List (b8 (List UInt8))} {c8 c9:Value} {m:Fr} (wf:gB M c) (ok:iy d Fr.emp L M)
  (h:Sat [c_ (ef cS) 31 c8 L,obj b 77 [c8,c9,.int .i64 (s:Int),.map (some mid)],av ag.str 9 c9 (L.map fun y=>bT y.1),cc encS mid M c] m):bp aJ d b s L m:=bp.made (dx:=cS) (aN:=aJ) wf ok h
set_option maxHeartbeats 400000 in
theorem U2 {r d:Fr} {b s:Nat} {L:List aH} (hT:gH r d s L) (hs4:s<4) :
  ay prog 41 #[.pointer (some ⟨b,0,none⟩)] r [dS aJ d Fr.emp b s L] (aM fun v U=>∃ b',v=.pointer (some ⟨b',0,none⟩)∧U=[dS aJ d Fr.emp b s L,bp aJ d b' s L]):=by
 have hbL:L.length≤10000000:=hT.small.1;refine ay.of (n:=43) _ rfl func41 rfl rfl rfl fun g hg R hR=>?_;have hT:=hT.mono hg;refine S.open (bs:=fun x:{x:bP d L // x.k=Fr.emp}=>x.1.p4 aJ b s) .here (fun m h=>dS.gy h) fun ⟨x,Px⟩=>?_;obtain ⟨k,c8,c9,mid,M,dU,wf,ok⟩:=x;have hk:k=Fr.emp:=Px;subst hk;simp only [bP.p4,List.cons_append,List.nil_append];refine S.lF (.there .here) (fun _ y=>y.shape) fun ⟨cO,cQ,hL⟩=>?_;refine S.lF (.there (.there .here)) (fun _ y=>y.shape) fun ⟨cB,cC,hW⟩=>?_;rw [List.length_map] at hW;subst hL hW;have hml:(L.map fun y=>bT y.1).length=L.length:=List.length_map ..;refine S.seq<|S.region rfl<|O.q 1 rfl<|O.nil<|S.seq<|S.seq<|S.region rfl<|O.q 1 rfl<|O.cU (.p rfl) rfl aa rfl rfl (bs:=bP.p4 aJ b s (⟨Fr.emp,.slice cO L.length cQ,.slice cB L.length cC,mid,M,dU,wf,ok⟩:bP d L)) aV (fun m hm hd=>qS (Fc wf ok hT.hd hd hm)) ?_;rintro _ _ ⟨rfl,rfl⟩
 try simp only [an,aq,au]
 refine O.sT 7 rfl aG ?_;refine O.op (.p rfl) (.not rfl)<|O.nil<|S.aP rfl<|S.skip<|S.seq<|S.region rfl<|O.q 1 rfl<|O.op (.p rfl) (.nilCheck rfl)<|O.op (.p rfl) (.aF uF rfl)<|O.op (.p rfl) (.lo cv) ?_;refine O.aC (.p rfl) rfl aa rfl rfl ((I_ hs4)) ?_;rintro _ _ ⟨nJ,m13,rfl,rfl⟩
 try simp only [an,aq,au]
 refine O.q 1 rfl<|O.nil<|S.seq<|S.bB (L:=[0,1,3,4,5,6,2,7,8,9,10,11,12]) bx aa ?_;refine af.q 3 rfl<|.quiet (.p rfl) rfl (fun _=>.nilCheck rfl)<|.quiet (.p rfl) rfl (fun _=>.aF mq rfl)<|.quiet (.p rfl) rfl (fun _=>.aF jA rfl)<|af.eW 2 7 [7,8,9,10,11,12] [2,8,9,10,11,12] aa rfl rfl ?_ ?_
 ·refine bO.cU (.p rfl) aa rfl aa rfl rfl (bs:=bP.p4 aJ b s (⟨Fr.emp,.slice cO L.length cQ,.slice cB L.length cC,mid,M,dU,wf,ok⟩:bP d L)) aV (fun m hm hd=>Kw (Fc wf ok hT.hd hd hm) hT.ok hT.small) ?_
  rintro _ _ ⟨eb,ec,rfl,rfl⟩
  try simp only [an,aq,au]
  refine af.cr (.p rfl) aa (fun _=>.cK e6 aG ai aG) ?_;refine af.cU (.p rfl) aa rfl aa rfl rfl (bs:=[av ag.str 9 (.slice cB L.length cC) (L.map fun y=>bT y.1)]) aV (fun m hm hd=>Gn ((Sat.arr hm).mono (Fr.dA hd)) ah) ?_;rintro _ _ ⟨a22,dZ,rfl,rfl⟩
  try simp only [an,aq,au]
  refine .quiet (.p rfl) rfl (fun _=>.build (cs:=[_,_]) underlying74 rfl rfl rfl rfl rfl)<|.quiet (.p rfl) rfl (fun _=>.nilCheck rfl)<|.quiet (.p rfl) rfl (fun _=>.fieldAddr mq rfl)<|af.cZ (news:=[.slice eb L.length ec,.slice a22 (L.map fun y=>bT y.1).length dZ]) rfl aa aa rfl rfl sv rfl ai aT ?_;refine aK.nil (S.seq (S.seq ?_));rw [hml];refine S.c7 (b:=nJ) (cs' :=[.slice eb L.length ec,.slice a22 L.length dZ,.int .i64 (s:Int),.map (some m13)]) ai aG ?_;refine S.region rfl<|O.q 1 rfl<|O.op (.p rfl) (.nilCheck rfl)<|O.op (.p rfl) (.aF pK rfl)<|O.op (.p rfl) (.lo kK) ?_;refine O.aO (.p rfl) (.EA underlying75 rfl ai) ?_;rintro _ _ ⟨xl,rfl,rfl⟩;refine O.nil<|S.block<|S.pk (ζ:=[jd (K:=List UInt8) xl mid dU [],cc encS mid M dU,cc encS m13 [] 0,obj b 77 [.slice cO L.length cQ,.slice cB L.length cC,.int .i64 (s:Int),.map (some mid)],av (ag.fP d Fr.emp cq) 31 (.slice cO L.length cQ) L,av ag.str 9 (.slice cB L.length cC) (L.map fun y=>bT y.1),c_ (ef cS) 31 (.slice eb L.length ec) L,obj nJ 77 [.slice eb L.length ec,.slice a22 L.length dZ,.int .i64 (s:Int),.map (some m13)],av ag.str 9 (.slice a22 L.length dZ) (L.map fun y=>bT y.1)]) jM ?_
  refine S.D2 (ι:=List (b8 (List UInt8))) (dB:=List (b8 (List UInt8))) (jO:=List (b8 (List UInt8))) (dx:=Nat) (fun bc jK M2 c2=>M.Perm (bc++jK)∧gB M2 c2∧iy d Fr.emp L M2) (fun bc jK M2 c2=>[]) [(3,_),(30,_)] (fun bc jK M2 c2=>[jd xl mid dU bc,cc encS mid M dU,cc encS m13 M2 c2,obj b 77 [.slice cO L.length cQ,.slice cB L.length cC,.int .i64 (s:Int),.map (some mid)],av (ag.fP d Fr.emp cq) 31 (.slice cO L.length cQ) L,av ag.str 9 (.slice cB L.length cC) (L.map fun y=>bT y.1),c_ (ef cS) 31 (.slice eb L.length ec) L,obj nJ 77 [.slice eb L.length ec,.slice a22 L.length dZ,.int .i64 (s:Int),.map (some m13)],av ag.str 9 (.slice a22 L.length dZ) (L.map fun y=>bT y.1)]) (fun bc jK M2 c2=>jK.length) ([]) (M) ([]) (0) (by exact ⟨List.Perm.refl _,gB.nil,iy.nil _ _ _⟩) (.nil) (.cons rfl (.cons rfl (.nil))) (by with_reducible rfl) fun bc jK M2 c2 hx ih=>?_;have bl:=cW (g:=g);obtain ⟨hp,x_,vg⟩:=hx;refine S.seq<|S.region rfl<|O.Jb (.p rfl) rfl wf hp ai ai (fun ji=>?_) (fun y31 t131 t231 ji=>?_)
  ·clear ih
   refine O.q 1 rfl<|O.nil<|S.seq<|S.aP rfl<|S.exit rfl<|S.seq<|S.cg (A:=dS aJ d Fr.emp b s L) (bs:=bP.p4 aJ b s (⟨Fr.emp,.slice cO L.length cQ,.slice cB L.length cC,mid,M,dU,wf,ok⟩:bP d L)) aV (fun m h=>dS.fold ⟨Fr.emp,.slice cO L.length cQ,.slice cB L.length cC,mid,M,dU,wf,ok⟩ h) ?_;refine S.cg (A:=bp aJ d nJ s L) (bs:=[c_ (ef cS) 31 (.slice eb L.length ec) L,obj nJ 77 [.slice eb L.length ec,.slice a22 L.length dZ,.int .i64 (s:Int),.map (some m13)],av ag.str 9 (.slice a22 L.length dZ) (L.map fun y=>bT y.1),cc encS m13 M2 c2]) aV (by intro m h;exact IY (c8:=.slice eb L.length ec) (c9:=.slice a22 L.length dZ) (mid:=m13) (c:=c2) (M:=M2) x_ vg h) ?_;refine S.region rfl<|O.q 2 rfl<|O.nil ?_;exact S.rt results41 rfl hR ⟨nJ,rfl,rfl⟩
  ·subst ji
   have hmem:y31∈M:=hp.mem_iff.2 bq;have wN:=ok y31.1 y31.2.1 (uJ wf.2.2 hmem);have hp2:M.Perm ((bc++[y31])++(t131++t231)):=hp.trans (by rw [List.append_assoc];exact List.Perm.append_left _ List.perm_middle);refine O.q 1 rfl<|O.nil<|S.seq<|S.bC rfl<|S.skip<|S.block<|S.seq<|S.region rfl<|O.op (.p rfl) (.B3 rfl wf hmem ai ai) ?_;refine O.q 4 rfl<|O.nil<|S.region rfl<|O.q 1 rfl<|O.op (.p rfl) (.nilCheck rfl)<|O.op (.p rfl) (.aF pK rfl)<|O.op (.p rfl) (.lo kK) ?_;refine O.q 2 rfl<|O.bw rfl (.rV underlying75 (o3 underlying9) rfl rfl rfl ai) ?_;refine O.nil (S.inBlock ?_);exact S.pw (ih (bc++[y31]) (t131++t231) (ir M2 c2 y31.1 y31.2.1) (kI M2 c2 y31.1) (by exact ⟨hp2,Ag x_ y31.1 y31.2.1,vg.put (c:=c2) wN.1 wN.2⟩) bq)
 ·refine bO.cr (.p rfl) aa (fun _=>.cK e6 aG ai aG) ?_
  refine af.cU (.p rfl) aa rfl aa rfl rfl (bs:=bP.p4 aJ b s (⟨Fr.emp,.slice cO L.length cQ,.slice cB L.length cC,mid,M,dU,wf,ok⟩:bP d L)) aV (fun m hm hd=>Kw (Fc wf ok hT.hd hd hm) hT.ok hT.small) ?_;rintro _ _ ⟨eb,ec,rfl,rfl⟩
  try simp only [an,aq,au]
  refine af.cU (.p rfl) aa rfl aa rfl rfl (bs:=[av ag.str 9 (.slice cB L.length cC) (L.map fun y=>bT y.1)]) aV (fun m hm hd=>Gn ((Sat.arr hm).mono (Fr.dA hd)) ah) ?_;rintro _ _ ⟨a22,dZ,rfl,rfl⟩
  try simp only [an,aq,au]
  refine .quiet (.p rfl) rfl (fun _=>.build (cs:=[_,_]) underlying74 rfl rfl rfl rfl rfl)<|.quiet (.p rfl) rfl (fun _=>.nilCheck rfl)<|.quiet (.p rfl) rfl (fun _=>.fieldAddr mq rfl)<|af.cZ (news:=[.slice eb L.length ec,.slice a22 (L.map fun y=>bT y.1).length dZ]) rfl aa aa rfl rfl sv rfl ai aT ?_;refine aK.nil (S.seq (S.seq ?_));rw [hml];refine S.c7 (b:=nJ) (cs' :=[.slice eb L.length ec,.slice a22 L.length dZ,.int .i64 (s:Int),.map (some m13)]) ai aG ?_;refine S.region rfl<|O.q 1 rfl<|O.op (.p rfl) (.nilCheck rfl)<|O.op (.p rfl) (.aF pK rfl)<|O.op (.p rfl) (.lo kK) ?_;refine O.aO (.p rfl) (.EA underlying75 rfl ai) ?_;rintro _ _ ⟨xl,rfl,rfl⟩;refine O.nil<|S.block<|S.pk (ζ:=[jd (K:=List UInt8) xl mid dU [],cc encS mid M dU,cc encS m13 [] 0,obj b 77 [.slice cO L.length cQ,.slice cB L.length cC,.int .i64 (s:Int),.map (some mid)],av (ag.fP d Fr.emp cq) 31 (.slice cO L.length cQ) L,av ag.str 9 (.slice cB L.length cC) (L.map fun y=>bT y.1),c_ (ef cS) 31 (.slice eb L.length ec) L,obj nJ 77 [.slice eb L.length ec,.slice a22 L.length dZ,.int .i64 (s:Int),.map (some m13)],av ag.str 9 (.slice a22 L.length dZ) (L.map fun y=>bT y.1)]) jM ?_
  refine S.D2 (ι:=List (b8 (List UInt8))) (dB:=List (b8 (List UInt8))) (jO:=List (b8 (List UInt8))) (dx:=Nat) (fun bc jK M2 c2=>M.Perm (bc++jK)∧gB M2 c2∧iy d Fr.emp L M2) (fun bc jK M2 c2=>[]) [(3,_),(30,_)] (fun bc jK M2 c2=>[jd xl mid dU bc,cc encS mid M dU,cc encS m13 M2 c2,obj b 77 [.slice cO L.length cQ,.slice cB L.length cC,.int .i64 (s:Int),.map (some mid)],av (ag.fP d Fr.emp cq) 31 (.slice cO L.length cQ) L,av ag.str 9 (.slice cB L.length cC) (L.map fun y=>bT y.1),c_ (ef cS) 31 (.slice eb L.length ec) L,obj nJ 77 [.slice eb L.length ec,.slice a22 L.length dZ,.int .i64 (s:Int),.map (some m13)],av ag.str 9 (.slice a22 L.length dZ) (L.map fun y=>bT y.1)]) (fun bc jK M2 c2=>jK.length) ([]) (M) ([]) (0) (by exact ⟨List.Perm.refl _,gB.nil,iy.nil _ _ _⟩) (.nil) (.cons rfl (.cons rfl (.nil))) (by with_reducible rfl) fun bc jK M2 c2 hx ih=>?_;have bl:=cW (g:=g);obtain ⟨hp,x_,vg⟩:=hx;refine S.seq<|S.region rfl<|O.Jb (.p rfl) rfl wf hp ai ai (fun ji=>?_) (fun y31 t131 t231 ji=>?_)
  ·clear ih
   refine O.q 1 rfl<|O.nil<|S.seq<|S.aP rfl<|S.exit rfl<|S.seq<|S.cg (A:=dS aJ d Fr.emp b s L) (bs:=bP.p4 aJ b s (⟨Fr.emp,.slice cO L.length cQ,.slice cB L.length cC,mid,M,dU,wf,ok⟩:bP d L)) aV (fun m h=>dS.fold ⟨Fr.emp,.slice cO L.length cQ,.slice cB L.length cC,mid,M,dU,wf,ok⟩ h) ?_;refine S.cg (A:=bp aJ d nJ s L) (bs:=[c_ (ef cS) 31 (.slice eb L.length ec) L,obj nJ 77 [.slice eb L.length ec,.slice a22 L.length dZ,.int .i64 (s:Int),.map (some m13)],av ag.str 9 (.slice a22 L.length dZ) (L.map fun y=>bT y.1),cc encS m13 M2 c2]) aV (by intro m h;exact IY (c8:=.slice eb L.length ec) (c9:=.slice a22 L.length dZ) (mid:=m13) (c:=c2) (M:=M2) x_ vg h) ?_;refine S.region rfl<|O.q 2 rfl<|O.nil ?_;exact S.rt results41 rfl hR ⟨nJ,rfl,rfl⟩
  ·subst ji
   have hmem:y31∈M:=hp.mem_iff.2 bq;have wN:=ok y31.1 y31.2.1 (uJ wf.2.2 hmem);have hp2:M.Perm ((bc++[y31])++(t131++t231)):=hp.trans (by rw [List.append_assoc];exact List.Perm.append_left _ List.perm_middle);refine O.q 1 rfl<|O.nil<|S.seq<|S.bC rfl<|S.skip<|S.block<|S.seq<|S.region rfl<|O.op (.p rfl) (.B3 rfl wf hmem ai ai) ?_;refine O.q 4 rfl<|O.nil<|S.region rfl<|O.q 1 rfl<|O.op (.p rfl) (.nilCheck rfl)<|O.op (.p rfl) (.aF pK rfl)<|O.op (.p rfl) (.lo kK) ?_;refine O.q 2 rfl<|O.bw rfl (.rV underlying75 (o3 underlying9) rfl rfl rfl ai) ?_;refine O.nil (S.inBlock ?_);exact S.pw (ih (bc++[y31]) (t131++t231) (ir M2 c2 y31.1 y31.2.1) (kI M2 c2 y31.1) (by exact ⟨hp2,Ag x_ y31.1 y31.2.1,vg.put (c:=c2) wN.1 wN.2⟩) bq)
def um (r:Fr) (v:Value):Prop:=ay prog 87 #[v] r [] (aM fun u U=>u=.bool false∧U=[])
theorem um.mono {r r' :Fr} {v:Value} (h:um r v) (e:r.sub r'):um r' v:=ay.sub h e
theorem RZ {r:Fr}:um r (.pointer none):=U5
theorem RQ {r:Fr} {v:Value} (h:um r v):ay prog 41 #[v] r [] (aM fun u U=>u=.pointer none∧U=[]):=by
 refine ay.of (n:=43) _ rfl func41 rfl rfl rfl fun g hg R hR=>?_;have h:=h.mono hg;refine S.seq<|S.region rfl<|O.q 1 rfl<|O.nil<|S.seq<|S.seq<|S.region rfl<|O.q 1 rfl<|O.aC (.p rfl) rfl aa rfl rfl (h) ?_;rintro _ _ ⟨rfl,rfl⟩
 try simp only [an,aq,au]
 refine O.aL 7 rfl aG ?_;refine O.op (.p rfl) (.not rfl)<|O.nil<|S.bC rfl<|S.seq<|S.region rfl<|O.q 1 rfl<|O.nil ?_;exact S.rt results41 rfl hR ⟨rfl,rfl⟩
def fq (d:Fr) (aS s:Nat) (L:List aH) (peer:Int) (began:Bool):az:=fun m=>∃ bz mp,Sat [obj aS 89 [.pointer (some ⟨bz,0,none⟩),.map (some mp),.int .i64 0,.int .i64 peer,.bool began],bp aJ d bz s L,cc encS mp [] 0] m
theorem fq.gy {d:Fr} {aS s:Nat} {L:List aH} {peer:Int} {began:Bool} {m:Fr}:fq d aS s L peer began m→∃ x:Nat × Nat,Sat [obj aS 89 [.pointer (some ⟨x.1,0,none⟩),.map (some x.2),.int .i64 0,.int .i64 peer,.bool began],bp aJ d x.1 s L,cc encS x.2 [] 0] m:=fun ⟨bz,mp,h⟩=>⟨(bz,mp),h⟩
theorem fq.fold {d:Fr} {aS bz mp s:Nat} {L:List aH} {peer:Int} {began:Bool} {m:Fr} (h:Sat [obj aS 89 [.pointer (some ⟨bz,0,none⟩),.map (some mp),.int .i64 0,.int .i64 peer,.bool began],bp aJ d bz s L,cc encS mp [] 0] m):fq d aS s L peer began m:=⟨bz,mp,h⟩
theorem nE {r:Fr} {b:Nat} {v0 v1 v2 v4:Value} {peer:Int} (hp:0<peer):ay prog 120 #[.pointer (some ⟨b,0,none⟩)] r [obj b 89 [v0,v1,v2,.int .i64 peer,v4]] (aM fun v U=>v=.bool true∧U=[obj b 89 [v0,v1,v2,.int .i64 peer,v4]]):=by
 refine ay.of (n:=12) _ rfl func120 rfl rfl rfl fun g hg R hR=>?_;refine S.seq<|S.region rfl<|O.q 1 rfl<|O.nil<|S.seq<|S.region rfl<|O.q 1 rfl<|O.op (.p rfl) (.xE underlying82 rfl rfl)<|O.sT 4 rfl aG ?_;refine O.q 2 rfl<|O.op (.g rfl rfl) (.nilCheck rfl)<|O.op (.g rfl rfl) (.aF wq rfl)<|O.op (.g rfl rfl) (.lo cv) ?_;refine O.op (.g rfl rfl) (.gtr rfl rfl)<|O.sT 10 rfl (by exact decide_eq_true hp) ?_;refine O.q 2 rfl<|O.nil ?_;exact S.rt results120 rfl hR ⟨rfl,rfl⟩
theorem T5 {r:Fr} {v:Value} {peer tD:Int} (h:um r v):ay prog 52 #[v,.int .i64 peer,.int .i64 tD] r [] (aM fun u U=>u=.pointer none∧U=[]):=by
 refine ay.of (n:=31) _ rfl func52 rfl rfl rfl fun g hg R hR=>?_;have h:=h.mono hg;refine S.seq<|S.region rfl<|O.q 1 rfl<|O.nil<|S.seq<|S.region rfl<|O.q 1 rfl<|O.aC (.p rfl) rfl aa rfl rfl ((RQ h)) ?_;rintro _ _ ⟨rfl,rfl⟩
 try simp only [an,aq,au]
 refine O.q 1 rfl<|O.nil<|S.seq<|S.seq<|S.region rfl<|O.q 1 rfl<|O.op (.p rfl) (.rq underlying42 rfl rfl)<|O.sT 11 rfl aG ?_;refine O.q 12 rfl<|O.nil<|S.bC rfl<|S.seq<|S.region rfl<|O.q 1 rfl<|O.nil ?_;exact S.rt results52 rfl hR ⟨rfl,rfl⟩
theorem EO {r d:Fr} {b s:Nat} {L:List aH} {peer tD:Int} (hT:gH r d s L) (hs4:s<4) (hp:1≤peer∧peer≤7) (hn:1≤tD) :
  ay prog 52 #[.pointer (some ⟨b,0,none⟩),.int .i64 peer,.int .i64 tD] r [dS aJ d Fr.emp b s L] (aM fun u U=>∃ aS,u=.pointer (some ⟨aS,0,none⟩)∧U=[dS aJ d Fr.emp b s L,fq d aS s L peer false]):=by
 obtain ⟨hp1,hp2⟩:=hp;refine ay.of (n:=31) _ rfl func52 rfl rfl rfl fun g hg R hR=>?_;have hT:=hT.mono hg;refine S.seq<|S.region rfl<|O.q 1 rfl<|O.nil<|S.seq<|S.region rfl<|O.q 1 rfl<|O.bD (.p rfl) rfl aa rfl rfl ai (U2 hT hs4) ?_;rintro _ _ ⟨F2,rfl,rfl⟩
 try simp only [an,aq,au]
 refine O.q 1 rfl<|O.nil<|S.seq<|S.seq<|S.region rfl<|O.q 1 rfl<|O.op (.p rfl) (.rq underlying42 rfl rfl)<|O.aL 11 rfl aG ?_;refine O.q 2 rfl<|O.op (.g rfl rfl) (.lss rfl rfl)<|O.aL 14 rfl (by exact decide_eq_false ah) ?_;refine O.q 3 rfl<|O.op (.g rfl rfl) (.gtr rfl rfl)<|O.aL 18 rfl (by exact decide_eq_false ah) ?_;refine O.q 3 rfl<|O.op (.g rfl rfl) (.lss rfl rfl)<|O.aL 22 rfl (by exact decide_eq_false ah) ?_;refine O.q 1 rfl<|O.nil<|S.aP rfl<|S.skip<|S.seq<|S.region rfl<|O.q 1 rfl<|O.op (.p rfl) (.build (cs:=[_]) underlying85 rfl rfl rfl rfl rfl)<|O.aO (.p rfl) (.o5 (enc:=encS)) ?_;rintro _ _ ⟨F0,rfl,rfl⟩;refine O.op (.p rfl) (.build (cs:=[_,_]) underlying87 rfl rfl rfl rfl rfl)<|O.q 1 rfl<|O.op (.p rfl) (.build (cs:=[_,_,_,_,_]) underlying89 rfl rfl rfl rfl rfl)<|O.aO (.p rfl) (.box (cs:=[_,_,_,_,_]) rfl rfl) ?_;rintro _ _ ⟨Bk,rfl,rfl⟩;refine O.q 1 rfl<|O.nil<|S.cg (A:=fq d Bk s L peer false) (bs:=[obj Bk 89 [.pointer (some ⟨F2,0,none⟩),.map (some F0),.int .i64 0,.int .i64 peer,.bool false],bp aJ d F2 s L,cc encS F0 [] 0]) aV (fun m h=>fq.fold h) ?_;exact S.rt results52 rfl hR ⟨Bk,rfl,rfl⟩
theorem ER {r d:Fr} {b s:Nat} {L:List aH} {p xs:List UInt8} {va:Value} (hT:gH r d s L) (ha:aj ag.u8 r va xs) (hl:p.length≤9223372036854775807) :
  ay prog 206 #[.agg #[.pointer (some ⟨b,0,none⟩)],.string (str p),va] r [bp aJ d b s L] (aM fun v U=>v=.bool (!decide (jJ L p=xs))∧U=[bp aJ d b s L]):=by
 obtain ⟨a1,c1,rfl⟩:=ha.shape;refine ay.of (n:=14) _ rfl func206 rfl rfl rfl fun g hg R hR=>?_;have hT:=hT.mono hg;have ha:=ha.mono hg;refine S.seq<|S.region rfl<|O.aO (.p rfl) (.box (cs:=[_]) rfl rfl) ?_;rintro _ _ ⟨b3,rfl,rfl⟩;refine O.q 1 rfl<|O.nil<|S.seq<|S.region rfl<|O.op (.p rfl) (.aF uI rfl)<|O.op (.p rfl) (.lo nQ) ?_;refine O.q 1 rfl<|O.bD (.p rfl) rfl aa rfl rfl ai (pX hT hl) ?_;rintro _ _ ⟨ov,oz,rfl,rfl⟩
 try simp only [an,aq,au]
 refine O.q 1 rfl<|O.cU (.p rfl) rfl aa rfl rfl (bs:=[av ag.u8 5 (.slice ov (jJ L p).length oz) (jJ L p)]) aV (fun m hm hd=>nK ((Sat.arr hm).mono (Fr.dA hd)) (ha.mono (Fr.cw _ _))) ?_;rintro _ _ ⟨rfl,rfl⟩
 try simp only [an,aq,au]
 refine O.op (.p rfl) ((by first|exact .k7 rfl|exact .not rfl)) ?_;refine O.q 1 rfl<|O.nil ?_;exact S.rt results206 rfl hR ⟨congrArg Value.bool bq,rfl⟩
theorem T3 {r d:Fr} {aS s:Nat} {L:List aH} {peer:Int} {bM:Bool} {va x8:Value} {xs:List UInt8} (hT:gH r d s L) (ha:aj (ag.slice ag.u8) r va [xs]) (hp:aj ag.str r x8 [[]]) (hxs:jJ L []=xs) :
  ay prog 123 #[.pointer (some ⟨aS,0,none⟩),va,x8] r [fq d aS s L peer bM] (aM fun v U=>v=.slice none 0 0∧U=[fq d aS s L peer bM]):=by
 obtain ⟨a1,c1,rfl⟩:=ha.shape;obtain ⟨a2,c2,rfl⟩:=hp.shape;refine ay.of (n:=53) _ rfl func123 rfl rfl rfl fun g hg R hR=>?_;have hT:=hT.mono hg;have ha:=ha.mono hg;have hp:=hp.mono hg;refine S.open (bs:=fun x:Nat × Nat=>[obj aS 89 [.pointer (some ⟨x.1,0,none⟩),.map (some x.2),.int .i64 0,.int .i64 peer,.bool bM],bp aJ d x.1 s L,cc encS x.2 [] 0]) .here (fun m h=>fq.gy h) fun ⟨bz,mp⟩=>?_;simp only [List.cons_append,List.nil_append];refine S.seq<|S.region rfl<|O.q 1 rfl<|O.nil<|S.seq<|S.region rfl<|O.q 1 rfl<|O.nil<|S.seq<|S.seq<|S.region rfl<|O.q 1 rfl<|O.op (.p rfl) (.len rfl underlying53 rfl)<|O.q 1 rfl<|O.nil<|S.block<|S.fT (ι:=Nat) (fun i=>i≤1) (fun i=>[(12,.int .i64 (i:Int)),(7,.slice none 0 0)]) [(0,_),(1,_),(10,_),(11,_)] (fun i=>[obj aS 89 [.pointer (some ⟨bz,0,none⟩),.map (some mp),.int .i64 0,.int .i64 peer,.bool bM],bp aJ d bz s L,cc encS mp [] 0]) (fun i=>1 - i) (0) bq (.cons rfl (.cons rfl (.nil))) (.cons rfl (.cons rfl (.cons rfl (.cons rfl (.nil))))) rfl fun i hx ih=>?_;have bl:=cW (g:=g);refine S.seq<|S.region rfl<|O.op (.p rfl) (.lss rfl rfl)<|O.nil (S.seq ?_)
 first|refine S.ct rfl (fun iJ=>?_) (fun iJ=>?_)|refine S.cm rfl (fun iJ=>?_) (fun iJ=>?_)
 ·have rI:([[]]:List (List UInt8)).length=1:=rfl
  have hi:i=0:=by omega
  subst hi;refine S.skip<|S.seq<|S.block<|S.seq<|S.region rfl<|O.q 1 rfl<|O.b_ (.p rfl) underlying53 gG rfl rfl (show _=(((0):Nat):Int) by omega) (by first|assumption|exact aj.mono hg aB|exact aj.left aB|exact aj.left (aj.mono hg aB)) (h:=fun xN v_ gR kN=>?_);obtain ⟨rfl,XJ⟩:=kN;refine O.op (.p rfl) (.loadAt bV rfl gR rfl) ?_;refine O.slot 16 (v' :=.string (str [])) rfl aG ?_;refine O.q 2 rfl<|O.nil<|S.seq<|S.bB (L:=[0,1,2,4,5,6,7,8,3,9]) bx aa ?_;refine af.q 1 rfl<|.quiet (.p rfl) rfl (fun _=>.nilCheck rfl)<|.quiet (.p rfl) rfl (fun _=>.aF sP rfl)<|af.q 3 rfl<|af.b_ (.p rfl) underlying109 tP rfl rfl (show _=(((0):Nat):Int) by omega) (by first|assumption|exact aj.mono hg aB|exact aj.left aB|exact aj.left (aj.mono hg aB)) (h:=fun xO we lP oT=>?_);obtain ⟨v24,rfl,rF⟩:=oT;obtain ⟨a24,kT,rfl⟩:=rF.shape;refine .quiet (.p rfl) rfl (fun _=>.loadAt bg rfl lP rfl) ?_;refine af.cr (.p rfl) aa (fun _=>.rU (news:=[.pointer (some ⟨bz,0,none⟩)]) isAgg85 aa aG ai aG) ?_;refine af.bD (.p rfl) aa rfl aa rfl rfl ai (ER (p:=[]) (xs:=xs) hT rF bq) ?_;rintro _ _ ⟨rfl,rfl⟩
  try simp only [an,aq,au]
  refine af.aL 26 rfl (by simp [hxs]) ?_;refine aK.nil<|S.aP rfl<|S.skip<|S.inBlock<|S.region rfl<|O.op (.p rfl) (.add rfl rfl (IntWalk.i64_in _ ah))<|O.q 1 rfl<|O.nil ?_;exact S.pw (ih (1) ah ah)
 ·clear ih
  refine S.exit rfl<|S.seq<|S.region rfl<|O.q 2 rfl<|O.nil<|S.cg (A:=fq d aS s L peer bM) (bs:=[obj aS 89 [.pointer (some ⟨bz,0,none⟩),.map (some mp),.int .i64 0,.int .i64 peer,.bool bM],bp aJ d bz s L,cc encS mp [] 0]) aV (fun m h=>fq.fold h) ?_;exact S.rt results123 rfl hR ⟨rfl,rfl⟩
theorem J4 {r d:Fr} {aS s:Nat} {L:List aH} {peer:Int} {bM:Bool} (hp:0<peer):ay prog 55 #[.pointer (some ⟨aS,0,none⟩)] r [fq d aS s L peer bM] (aM fun v U=>v=.bool bM∧U=[fq d aS s L peer bM]):=by
 refine ay.of (n:=20) _ rfl func55 rfl rfl rfl fun g hg R hR=>?_;refine S.open (bs:=fun x:Nat × Nat=>[obj aS 89 [.pointer (some ⟨x.1,0,none⟩),.map (some x.2),.int .i64 0,.int .i64 peer,.bool bM],bp aJ d x.1 s L,cc encS x.2 [] 0]) .here (fun m h=>fq.gy h) fun ⟨bz,mp⟩=>?_;simp only [List.cons_append,List.nil_append]
 cases bM with
 |false =>
  refine S.seq<|S.region rfl<|O.q 1 rfl<|O.nil<|S.seq<|S.region rfl<|O.q 1 rfl<|O.bD (.p rfl) rfl aa rfl rfl ai (nE hp) ?_;rintro _ _ ⟨rfl,rfl⟩
  try simp only [an,aq,au]
  refine O.sT 4 rfl aG ?_;refine O.q 2 rfl<|O.op (.g rfl rfl) (.nilCheck rfl)<|O.op (.g rfl rfl) (.aF oI rfl)<|O.op (.g rfl rfl) (.lo ic) ?_;refine O.aL 9 rfl aG ?_;refine O.q 11 rfl<|O.nil<|S.cg (A:=fq d aS s L peer false) (bs:=[obj aS 89 [.pointer (some ⟨bz,0,none⟩),.map (some mp),.int .i64 0,.int .i64 peer,.bool false],bp aJ d bz s L,cc encS mp [] 0]) aV (fun m h=>fq.fold h) ?_;exact S.rt results55 rfl hR ⟨rfl,rfl⟩
 |true =>
  refine S.seq<|S.region rfl<|O.q 1 rfl<|O.nil<|S.seq<|S.region rfl<|O.q 1 rfl<|O.bD (.p rfl) rfl aa rfl rfl ai (nE hp) ?_;rintro _ _ ⟨rfl,rfl⟩
  try simp only [an,aq,au]
  refine O.sT 4 rfl aG ?_;refine O.q 2 rfl<|O.op (.g rfl rfl) (.nilCheck rfl)<|O.op (.g rfl rfl) (.aF oI rfl)<|O.op (.g rfl rfl) (.lo ic) ?_;refine O.sT 9 rfl aG ?_;refine O.q 3 rfl<|O.op (.g rfl rfl) (.nilCheck rfl)<|O.op (.g rfl rfl) (.aF oH rfl)<|O.op (.g rfl rfl) (.aF sO rfl)<|O.op (.g rfl rfl) (.lo kK) ?_;refine O.op (.g rfl rfl) (.IP (l:=[]) underlying75 rfl ai) ?_;refine O.slot 17 (v' :=.int .i64 0) rfl aG ?_;refine O.op (.g rfl rfl) (.eql rfl rfl)<|O.q 2 rfl<|O.nil<|S.cg (A:=fq d aS s L peer true) (bs:=[obj aS 89 [.pointer (some ⟨bz,0,none⟩),.map (some mp),.int .i64 0,.int .i64 peer,.bool true],bp aJ d bz s L,cc encS mp [] 0]) aV (fun m h=>fq.fold h) ?_;exact S.rt results55 rfl hR ⟨rfl,rfl⟩
theorem T7 {r d:Fr} {aS s:Nat} {L:List aH} {cs:List Value} {x:iV} {mF:Value} (hT:gH r d s L) (hs4:s<4) (h:gq.rel r cs x) (hok:nD x=true) (h2:x.2.1=(s:Int)) (hn:aj ag.u8 r mF (bA L [])) (h3:x.2.2.2.1=dw (s:Int) (bA L [])) :
  ay prog 53 #[.pointer (some ⟨aS,0,none⟩),.agg cs.toArray,mF] r [fq d aS s L x.1 false] (aM fun u U=>u=.tuple #[.slice none 0 0,.int .i64 0]∧U=[fq d aS s L x.1 true]):=by
 have hpos:0<x.1:=by have:=(xV.1 (xT.1 hok).1).1;omega
 have ig:=qT hT.ok [];have ht:(dw (s:Int) (bA L [])).length=64:=by unfold dw;rw [if_pos ⟨by omega,by omega,ig⟩,o9]
 have hsum:jJ L []=bA L []:=by unfold jJ;rw [if_pos ⟨by simp,fun c hc=>by cases hc⟩]
 obtain ⟨a5,dM,rfl⟩:=hn.shape;obtain ⟨fE,pq,fF,py,rfl,k0,k1,k2,aR,pP⟩:=gq.sh h;refine ay.of (n:=54) _ rfl func53 rfl rfl rfl fun g hg R hR=>?_;have hT:=hT.mono hg;have h:=h.mono hg;have hn:=hn.mono hg;have aR:=aR.mono hg;refine S.open (bs:=fun x' :Nat × Nat=>[obj aS 89 [.pointer (some ⟨x'.1,0,none⟩),.map (some x'.2),.int .i64 0,.int .i64 x.1,.bool false],bp aJ d x'.1 s L,cc encS x'.2 [] 0]) .here (fun m h=>fq.gy h) fun ⟨bz,mp⟩=>?_;simp only [List.cons_append,List.nil_append];refine S.seq<|S.region rfl<|O.aO (.p rfl) (.box (cs:=[_,_,_,_,_]) rfl rfl) ?_;rintro _ _ ⟨b4,rfl,rfl⟩;refine O.q 2 rfl<|O.nil<|S.seq<|S.block<|S.seq<|S.eC (A:=obj b4 81 [.int .i64 x.1,.int .i64 x.2.1,.int .i64 x.2.2.1,.slice fE x.2.2.2.1.length fF,.slice pq x.2.2.2.2.1.length py]) ai fun g hs hm ⟨_,x',s'⟩=>?_;have h4:=(fun s x=>(fK x).mono s) s' x';clear x' s';replace hg:=Fr.aI hg hs;replace hR:=bt hR hm
 try replace hT:=hT.mono hs
 try replace h:=h.mono hs
 try replace hn:=hn.mono hs
 try replace aR:=aR.mono hs
 clear hs hm;refine S.region rfl<|O.q 1 rfl<|O.bD (.p rfl) rfl aa rfl rfl ai (nE hpos) ?_;rintro _ _ ⟨rfl,rfl⟩
 try simp only [an,aq,au]
 refine O.sT 10 rfl aG ?_;refine O.op (.p rfl) (.not rfl)<|O.q 1 rfl<|O.nil<|S.aP rfl<|S.seq<|S.region rfl<|O.q 1 rfl<|O.op (.p rfl) (.nilCheck rfl)<|O.op (.p rfl) (.aF oI rfl)<|O.op (.p rfl) (.lo ic) ?_;refine O.aL 16 rfl aG ?_;refine O.q 1 rfl<|O.nil<|S.aP rfl<|S.seq<|S.seq<|S.region rfl<|O.op (.p rfl) (.bI isAgg81 aa rfl h4) ?_;refine O.aC (.p rfl) rfl aa rfl rfl ((AE h)) ?_;rintro _ _ ⟨rfl,rfl⟩
 try simp only [an,aq,au]
 refine O.sT 19 rfl (by exact hok) ?_;refine O.op (.p rfl) (.not rfl)<|O.q 1 rfl<|O.nil<|S.aP rfl<|S.seq<|S.bB (L:=[0,1,2,3,4,5,6,7]) bx aa ?_;refine .quiet (.p rfl) rfl (fun _=>.fieldAddr uG rfl)<|.quiet (.p rfl) rfl (fun _=>.loadAt cv rfl h4 rfl) ?_;refine af.q 1 rfl<|.quiet (.p rfl) rfl (fun _=>.nilCheck rfl)<|.quiet (.p rfl) rfl (fun _=>.aF wq rfl)<|af.cr (.p rfl) aa (fun _=>.cK cv aG ai aG) ?_;refine .quiet (.p rfl) rfl (fun _=>.neq rfl rfl)<|af.aL 27 rfl (by exact decide_eq_false (fun q=>q rfl)) ?_;refine af.q 1 rfl<|aK.nil<|S.aP rfl<|S.bB (L:=[0,1,2,3,4,5,6,7,8,9]) bx aa ?_;refine .quiet (.p rfl) rfl (fun _=>.fieldAddr rA rfl)<|.quiet (.p rfl) rfl (fun _=>.loadAt cv rfl (h4.drop 1) rfl) ?_;refine af.q 1 rfl<|.quiet (.p rfl) rfl (fun _=>.nilCheck rfl)<|.quiet (.p rfl) rfl (fun _=>.aF sP rfl)<|.quiet (.p rfl) rfl (fun _=>.aF uI rfl)<|af.cr (.p rfl) aa (fun _=>.cK nQ aG ai aG) ?_;refine af.cU (.p rfl) aa rfl aa rfl rfl (bs:=[bp aJ d bz s L]) aV (fun m hm hd=>x3 (bp.jF hT.hd hd hm)) ?_;rintro _ _ ⟨rfl,rfl⟩
 try simp only [an,aq,au]
 refine .quiet (.p rfl) rfl (fun _=>.neq rfl rfl)<|af.aL 36 rfl (by exact decide_eq_false ah) ?_;refine af.q 1 rfl<|aK.nil<|S.aP rfl<|S.seq<|S.bB (L:=[0,1,2,4,5,3,6,7,8]) bx aa<|.quiet (.p rfl) rfl (fun _=>.fieldAddr rA rfl)<|.quiet (.p rfl) rfl (fun _=>.loadAt cv rfl (h4.drop 1) rfl) ?_;refine af.q 1 rfl<|.quiet (.p rfl) rfl (fun _=>.fieldAddr uH rfl)<|.quiet (.p rfl) rfl (fun _=>.loadAt bg rfl (h4.drop 3) rfl) ?_;refine af.aC (.p rfl) aa rfl aa rfl rfl ((tW hn k1 hT.hH hT.hK ah)) ?_;rintro _ _ ⟨a41,sF,rfl,rfl⟩
 try simp only [an,aq,au]
 refine af.cU (.p rfl) aa rfl aa rfl rfl (bs:=[av ag.u8 5 (.slice a41 (dw x.2.1 (bA L [])).length sF) (dw x.2.1 (bA L []))]) aV (fun m hm hd=>nK ((Sat.arr hm).mono (Fr.dA hd)) (aR.mono (Fr.cw _ _))) ?_;rintro _ _ ⟨rfl,rfl⟩
 try simp only [an,aq,au]
 refine af.sT 44 rfl (by exact decide_eq_true (by rw [h3,h2])) ?_;refine .quiet (.p rfl) rfl (fun _=>.not rfl)<|af.q 1 rfl<|aK.nil<|S.aP rfl<|S.skip<|S.inBlock<|S.seq<|S.region rfl<|O.q 1 rfl<|O.op (.p rfl) (.nilCheck rfl)<|O.op (.p rfl) (.aF oI rfl)<|O.bw rfl (.bk ic rfl rfl bn ai aT) ?_;refine O.nil<|S.seq<|S.cg (A:=fq d aS s L x.1 true) (bs:=[obj aS 89 [.pointer (some ⟨bz,0,none⟩),.map (some mp),.int .i64 0,.int .i64 x.1,.bool true],bp aJ d bz s L,cc encS mp [] 0]) aV (fun m h=>fq.fold h) ?_;refine S.region rfl<|O.q 2 rfl<|O.aO (.p rfl) (.cn (T:=ag.cells 1) (ys:=[[.slice a5 (bA L []).length dM]]) underlying109 gr zE rfl rfl ⟨⟨rfl,rfl,by first|(simp;done)|(intro v hv;simp [Value.cells] at hv;rcases hv with rfl|rfl<;>rfl)|(refine List.forall_mem_cons.2 ⟨rfl,?_⟩;repeat (first|exact (fun _ h=>absurd h List.not_mem_nil)|refine List.forall_mem_cons.2 ⟨rfl,?_⟩))⟩,trivial⟩ zE) ?_;rintro _ _ ⟨a51,yy,rfl,rfl⟩;refine O.fB ai fun g hs hm nq=>?_;replace hg:=Fr.aI hg hs;replace hR:=bt hR hm
 try replace hT:=hT.mono hs
 try replace h:=h.mono hs
 try replace hn:=hn.mono hs
 try replace aR:=aR.mono hs
 try replace h4:=h4.mono hs
 clear hs hm;refine O.aO (.p rfl) (.cn (T:=ag.str) (ys:=[[]]) underlying53 iG zE rfl rfl ⟨⟨rfl,by decide⟩,trivial⟩ zE) ?_;rintro _ _ ⟨kg,ki,rfl,rfl⟩;refine O.fB ai fun g hs hm qq=>?_;replace hg:=Fr.aI hg hs;replace hR:=bt hR hm
 try replace hT:=hT.mono hs
 try replace h:=h.mono hs
 try replace hn:=hn.mono hs
 try replace aR:=aR.mono hs
 try replace h4:=h4.mono hs
 try replace nq:=nq.mono hs
 clear hs hm;refine O.bD (.p rfl) rfl aa rfl rfl ai (T3 hT (aj.j4 (T:=ag.slice ag.u8) (xs:=[bA L []]) nq (⟨⟨_,rfl,hn⟩,trivial⟩) rfl) qq hsum) ?_;rintro _ _ ⟨rfl,rfl⟩
 try simp only [an,aq,au]
 refine O.q 2 rfl<|O.nil<|S.lg results53 rfl rfl fun w hw=>Holds.end_ hR hw ?_;exact pk ⟨rfl,rfl⟩
theorem T_ {r d:Fr} {aS s:Nat} {L:List aH} {cs:List Value} {x:iV} {peer:Int} {mF:Value} (h:gq.rel r cs x) (hok:nD x=true) (hpos:0<peer) (hne:x.1≠peer) (C_:∃ a n c,mF=.slice a n c) :
  ay prog 53 #[.pointer (some ⟨aS,0,none⟩),.agg cs.toArray,mF] r [fq d aS s L peer false] (aM fun u U=>u=.tuple #[.slice none 0 0,.int .i64 22]∧U=[fq d aS s L peer false]):=by
 obtain ⟨a5,n5,dM,rfl⟩:=C_;obtain ⟨fE,pq,fF,py,rfl,k0,k1,k2,aR,pP⟩:=gq.sh h;refine ay.of (n:=54) _ rfl func53 rfl rfl rfl fun g hg R hR=>?_;have h:=h.mono hg;refine S.open (bs:=fun x' :Nat × Nat=>[obj aS 89 [.pointer (some ⟨x'.1,0,none⟩),.map (some x'.2),.int .i64 0,.int .i64 peer,.bool false],bp aJ d x'.1 s L,cc encS x'.2 [] 0]) .here (fun m h=>fq.gy h) fun ⟨bz,mp⟩=>?_;simp only [List.cons_append,List.nil_append];refine S.seq<|S.region rfl<|O.aO (.p rfl) (.box (cs:=[_,_,_,_,_]) rfl rfl) ?_;rintro _ _ ⟨b4,rfl,rfl⟩;refine O.q 2 rfl<|O.nil<|S.seq<|S.block<|S.seq<|S.eC (A:=obj b4 81 [.int .i64 x.1,.int .i64 x.2.1,.int .i64 x.2.2.1,.slice fE x.2.2.2.1.length fF,.slice pq x.2.2.2.2.1.length py]) ai fun g hs hm ⟨_,x',s'⟩=>?_;have h4:=(fun s x=>(fK x).mono s) s' x';clear x' s';replace hg:=Fr.aI hg hs;replace hR:=bt hR hm
 try replace h:=h.mono hs
 clear hs hm;refine S.region rfl<|O.q 1 rfl<|O.bD (.p rfl) rfl aa rfl rfl ai (nE hpos) ?_;rintro _ _ ⟨rfl,rfl⟩
 try simp only [an,aq,au]
 refine O.sT 10 rfl aG ?_;refine O.op (.p rfl) (.not rfl)<|O.q 1 rfl<|O.nil<|S.aP rfl<|S.seq<|S.region rfl<|O.q 1 rfl<|O.op (.p rfl) (.nilCheck rfl)<|O.op (.p rfl) (.aF oI rfl)<|O.op (.p rfl) (.lo ic) ?_;refine O.aL 16 rfl aG ?_;refine O.q 1 rfl<|O.nil<|S.aP rfl<|S.seq<|S.seq<|S.region rfl<|O.op (.p rfl) (.bI isAgg81 aa rfl h4) ?_;refine O.aC (.p rfl) rfl aa rfl rfl ((AE h)) ?_;rintro _ _ ⟨rfl,rfl⟩
 try simp only [an,aq,au]
 refine O.sT 19 rfl (by exact hok) ?_;refine O.op (.p rfl) (.not rfl)<|O.q 1 rfl<|O.nil<|S.aP rfl<|S.seq<|S.bB (L:=[0,1,2,3,4,5,6,7]) bx aa ?_;refine .quiet (.p rfl) rfl (fun _=>.fieldAddr uG rfl)<|.quiet (.p rfl) rfl (fun _=>.loadAt cv rfl h4 rfl) ?_;refine af.q 1 rfl<|.quiet (.p rfl) rfl (fun _=>.nilCheck rfl)<|.quiet (.p rfl) rfl (fun _=>.aF wq rfl)<|af.cr (.p rfl) aa (fun _=>.cK cv aG ai aG) ?_;refine .quiet (.p rfl) rfl (fun _=>.neq rfl rfl)<|af.sT 27 rfl (by exact decide_eq_true hne) ?_;refine af.q 1 rfl<|aK.nil<|S.bC rfl<|S.skip<|S.bC rfl<|S.seq<|S.region rfl<|O.q 2 rfl<|O.nil<|S.cg (A:=fq d aS s L peer false) (bs:=[obj aS 89 [.pointer (some ⟨bz,0,none⟩),.map (some mp),.int .i64 0,.int .i64 peer,.bool false],bp aJ d bz s L,cc encS mp [] 0]) aV (fun m h=>fq.fold h) ?_;refine S.lg results53 rfl rfl fun w hw=>Holds.end_ hR hw ?_;exact pk ⟨rfl,rfl⟩
theorem Iy {k m g:Fr} (h:m.sub g) (x:jt k m):k.sub g:=by
 have e:m=k:=x;exact e ▸ h
theorem KF {d k g:Fr} {b s:Nat} {L:List aH} {m:Fr} (hd:d.sub g) (hk:k.sub g) (h:Sat [dS aJ d k b s L] m):dS aJ g Fr.emp b s L m:=by
 obtain ⟨m1,_,_,s1,_,o,_⟩:=h;obtain ⟨c8,c9,mid,M,c,hwf,hs⟩:=dS.Si hd hk o;exact ⟨c8,c9,mid,M,c,hwf,Sat.mono s1 hs⟩
theorem Eh {r:Fr} {peer Kf:Int} {a:Option Addr} {n c:Nat}:ay prog 58 #[.int .i64 peer,.int .i64 Kf,.slice a n c] r [] (aM fun v U=>∃ a' c',v=.agg #[.int .i64 peer,.int .i64 Kf,.int .i64 1,.slice a n c,.slice a' 64 c']∧U=[av ag.u8 5 (.slice a' 64 c') (List.replicate 64 0)]):=by
 refine ay.of (n:=12) _ rfl func58 rfl rfl rfl fun g hg R hR=>?_;refine S.seq<|S.region rfl<|O.aO (.p rfl) (.alloc (cs:=[.int .i64 0,.int .i64 0,.int .i64 0,.slice none 0 0,.slice none 0 0]) zeroValue81 rfl) ?_;rintro _ _ ⟨gh,rfl,rfl⟩;refine O.nil<|S.seq<|S.region rfl<|O.q 3 rfl<|O.aO (.p rfl) (.zM (T:=ag.u8) 0 (m:=64) underlying24 eM zE rfl rfl rfl rfl rfl zE zE) ?_;rintro _ _ ⟨ov,oz,rfl,rfl⟩;refine O.op (.p rfl) (.build (cs:=[_,_,_,_,_]) underlying81 rfl rfl rfl rfl rfl)<|O.bw rfl (.cZ aa rfl rfl rfl rfl ai aT) ?_;refine O.nil<|S.vn results58 isAgg81 aa rfl ai fun w hw=>Holds.end_ hR hw ?_;exact pk ⟨ov,oz,rfl,rfl⟩
theorem JU {p:Int} {t:List UInt8} (hp:1≤p∧p≤7) (ht:t.length=64):nD (p,1,1,t,List.replicate 64 0,())=true :=
 xT.2 ⟨xV.2 ⟨hp.1,hp.2,(by decide:(0:Int)≤1),(by decide:(1:Int)<4),(by decide:(1:Int)≤1),(by decide:(1:Int)≤1073741824),ht⟩,List.length_replicate ..⟩
theorem Lq {r:Fr} (hH:At r ⟨0,0,none⟩ (bQ ed)) (hK:At r ⟨1,0,none⟩ (bQ fZ)):ay prog 51 #[] r [] (aM fun v U=>v=.bool true∧U=[]):=by
 refine ay.of (n:=57) _ rfl func51 rfl rfl rfl fun g hg R hR=>?_;have hH:=hH.mono hg;have hK:=hK.mono hg;have ig:(bA [] []).length=64:=qT (gI.nil 1) [];have Ig:(dw ((1:Nat):Int) (bA [] [])).length=64:=by unfold dw;rw [if_pos ⟨by omega,by omega,ig⟩,o9]
 have Pn:jJ [] []=bA [] []:=by unfold jJ;rw [if_pos ⟨by simp,fun c hc=>by cases hc⟩]
 have hT:gH g.h Fr.emp 1 []:=⟨Fr.c4 _,gI.nil 1,⟨by simp,fun _ h=>by cases h⟩,hH,hK⟩;refine S.seq<|S.region rfl<|O.q 1 rfl<|O.nil<|S.seq<|S.region rfl<|O.aC (.p rfl) rfl aa rfl rfl ((RV (s:=1) zE)) ?_;rintro _ _ ⟨jT,rfl,rfl⟩
 try simp only [an,aq,au]
 refine O.q 1 rfl<|O.nil<|S.seq<|S.region rfl<|O.q 1 rfl<|O.bD (.p rfl) rfl aa rfl rfl ai (EO (peer:=3) (tD:=1) hT zE zE zE) ?_;rintro _ _ ⟨vS,rfl,rfl⟩
 try simp only [an,aq,au]
 refine O.q 1 rfl<|O.nil<|S.seq<|S.cg (A:=bp aJ Fr.emp jT 1 []) (bs:=[dS aJ Fr.emp Fr.emp jT 1 []]) aV (fun m h=>dS.toX h) ?_;refine S.region rfl<|O.q 2 rfl<|O.bD (.p rfl) rfl aa rfl rfl ai (EZ hT zE) ?_;rintro _ _ ⟨nI,nM,rfl,rfl⟩
 try simp only [an,aq,au]
 refine O.fB ai fun g hs hm lG=>?_;replace hg:=Fr.aI hg hs;replace hR:=bt hR hm
 try replace hH:=hH.mono hs
 try replace hK:=hK.mono hs
 try replace hT:=hT.mono hs
 clear hs hm;refine O.aC (.p rfl) rfl aa rfl rfl ((Eh)) ?_;rintro _ _ ⟨vO,vU,rfl,rfl⟩
 try simp only [an,aq,au]
 refine O.fB ai fun g hs hm oM=>?_;replace hg:=Fr.aI hg hs;replace hR:=bt hR hm
 try replace hH:=hH.mono hs
 try replace hK:=hK.mono hs
 try replace hT:=hT.mono hs
 try replace lG:=lG.mono hs
 clear hs hm;refine O.q 1 rfl<|O.bD (.p rfl) rfl aa rfl rfl ai (pX (p:=[]) hT bq) ?_;rintro _ _ ⟨a17,qa,rfl,rfl⟩
 try simp only [an,aq,au]
 rw [Pn];refine O.fB ai fun g hs hm lH=>?_;replace hg:=Fr.aI hg hs;replace hR:=bt hR hm
 try replace hH:=hH.mono hs
 try replace hK:=hK.mono hs
 try replace hT:=hT.mono hs
 try replace lG:=lG.mono hs
 try replace oM:=oM.mono hs
 clear hs hm;refine O.bD (.p rfl) rfl aa rfl rfl ai (T7 (x:=(3,1,1,dw ((1:Nat):Int) (bA [] []),List.replicate 64 0,())) hT zE (gq.mk ⟨by decide,by decide⟩ ⟨by decide,by decide⟩ ⟨by decide,by decide⟩ lG oM) (JU zE Ig) rfl lH rfl) ?_;rintro _ _ ⟨rfl,rfl⟩
 try simp only [an,aq,au]
 refine O.q 5 rfl<|O.nil<|S.seq<|S.open (bs:=fun k:Fr=>[jt k,dS aJ Fr.emp k jT 1 []]) ai (fun m x=>x) fun k=>?_;simp only [List.cons_append,List.nil_append];refine S.eC (A:=jt k) ai fun g hs hm ⟨_,x',s'⟩=>?_;have hk:=Iy s' x';clear x' s';replace hg:=Fr.aI hg hs;replace hR:=bt hR hm
 try replace hH:=hH.mono hs
 try replace hK:=hK.mono hs
 try replace hT:=hT.mono hs
 try replace lG:=lG.mono hs
 try replace oM:=oM.mono hs
 try replace lH:=lH.mono hs
 clear hs hm;obtain ⟨e,he⟩:∃ e:Fr,e=g.h:=⟨_,rfl⟩;have qp:gH g.h e 1 []:=⟨he ▸ Fr.bW _,gI.nil 1,⟨by simp,fun _ h=>by cases h⟩,hH,hK⟩;refine S.cg (A:=dS aJ e Fr.emp jT 1 []) (bs:=[dS aJ Fr.emp k jT 1 []]) aV (fun m h=>KF (Fr.c4 _) (he ▸ hk) h) ?_;refine S.region rfl<|O.q 1 rfl<|O.bD (.p rfl) rfl aa rfl rfl ai (EO (peer:=3) (tD:=1) qp zE zE zE) ?_;rintro _ _ ⟨Wd,rfl,rfl⟩
 try simp only [an,aq,au]
 refine O.q 1 rfl<|O.nil<|S.seq<|S.cg (A:=bp aJ e jT 1 []) (bs:=[dS aJ e Fr.emp jT 1 []]) aV (fun m h=>dS.toX h) ?_;refine S.region rfl<|O.q 2 rfl<|O.bD (.p rfl) rfl aa rfl rfl ai (EZ qp zE) ?_;rintro _ _ ⟨a26,h_,rfl,rfl⟩
 try simp only [an,aq,au]
 refine O.fB ai fun g hs hm wB=>?_;replace hg:=Fr.aI hg hs;replace hR:=bt hR hm
 try replace hH:=hH.mono hs
 try replace hK:=hK.mono hs
 try replace hT:=hT.mono hs
 try replace lG:=lG.mono hs
 try replace oM:=oM.mono hs
 try replace lH:=lH.mono hs
 try replace hk:=hk.mono hs
 try replace qp:=qp.mono hs
 clear hs hm;refine O.aC (.p rfl) rfl aa rfl rfl ((Eh)) ?_;rintro _ _ ⟨a27,sE,rfl,rfl⟩
 try simp only [an,aq,au]
 refine O.fB ai fun g hs hm uN=>?_;replace hg:=Fr.aI hg hs;replace hR:=bt hR hm
 try replace hH:=hH.mono hs
 try replace hK:=hK.mono hs
 try replace hT:=hT.mono hs
 try replace lG:=lG.mono hs
 try replace oM:=oM.mono hs
 try replace lH:=lH.mono hs
 try replace hk:=hk.mono hs
 try replace qp:=qp.mono hs
 try replace wB:=wB.mono hs
 clear hs hm;refine O.q 1 rfl<|O.bD (.p rfl) rfl aa rfl rfl ai (pX (p:=[]) qp bq) ?_;rintro _ _ ⟨a29,Bu,rfl,rfl⟩
 try simp only [an,aq,au]
 refine O.fB ai fun g hs hm Hp=>?_;replace hg:=Fr.aI hg hs;replace hR:=bt hR hm
 try replace hH:=hH.mono hs
 try replace hK:=hK.mono hs
 try replace hT:=hT.mono hs
 try replace lG:=lG.mono hs
 try replace oM:=oM.mono hs
 try replace lH:=lH.mono hs
 try replace hk:=hk.mono hs
 try replace qp:=qp.mono hs
 try replace wB:=wB.mono hs
 try replace uN:=uN.mono hs
 clear hs hm;refine O.bD (.p rfl) rfl aa rfl rfl ai (T_ (peer:=3) (x:=(4,1,1,dw ((1:Nat):Int) (bA [] []),List.replicate 64 0,())) (gq.mk ⟨by decide,by decide⟩ ⟨by decide,by decide⟩ ⟨by decide,by decide⟩ wB uN) (JU zE Ig) zE zE ⟨_,_,_,rfl⟩) ?_;rintro _ _ ⟨rfl,rfl⟩
 try simp only [an,aq,au]
 refine O.q 5 rfl<|O.nil<|S.seq<|S.region rfl<|O.q 1 rfl<|O.op (.p rfl) (.eql rfl rfl)<|O.sT 34 rfl aG ?_;refine O.q 2 rfl<|O.op (.g rfl rfl) (.len rfl underlying53 rfl)<|O.op (.g rfl rfl) (.eql rfl rfl)<|O.sT 38 rfl aG ?_;refine O.q 3 rfl<|O.bD (.g rfl rfl) rfl aa rfl rfl ai (J4 zE) ?_;rintro _ _ ⟨rfl,rfl⟩
 try simp only [an,aq,au]
 refine O.sT 42 rfl aG ?_;refine O.q 3 rfl<|O.op (.g rfl rfl) (.eql rfl rfl)<|O.sT 46 rfl aG ?_;refine O.q 3 rfl<|O.bD (.g rfl rfl) rfl aa rfl rfl ai (J4 zE) ?_;rintro _ _ ⟨rfl,rfl⟩
 try simp only [an,aq,au]
 refine O.aL 50 rfl aG ?_;refine O.op (.g rfl rfl) (.not rfl)<|O.q 2 rfl<|O.aC (.g rfl rfl) rfl aa rfl rfl ((T5 RZ)) ?_;rintro _ _ ⟨rfl,rfl⟩
 try simp only [an,aq,au]
 refine O.op (.g rfl rfl) (.rq underlying82 rfl rfl)<|O.sT 55 rfl aG ?_;refine O.q 2 rfl<|O.nil ?_;exact S.rt results51 rfl hR ⟨rfl,rfl⟩
end Go.Proofs.YtojafegjlahajaaGreatDoor
