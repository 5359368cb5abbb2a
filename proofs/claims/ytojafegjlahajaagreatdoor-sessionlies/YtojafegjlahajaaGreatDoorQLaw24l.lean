/- Texts of this proof. -/
import Derived.Test.YtojafegjlahajaaGreatDoorQLaw24o
import Derived.Test.YtojafegjlahajaaGreatDoorQSpLies
open Go Go.Sp Go.Proofs.Tryz
set_option maxRecDepth 100000
set_option maxHeartbeats 1000000
attribute [local irreducible] obj Own av
namespace Go.Proofs.YtojafegjlahajaaGreatDoor
attribute [local irreducible] bw bZ fQ
theorem TD {α:Type} {xs:List α} {x:α} {i:Nat} (hi:i<xs.length) (h:x ∉ xs.take i) (e:¬ xs[i]=x):x ∉ xs.take (i+1):=fun q=>by
 rw [List.take_succ_eq_append_getElem hi] at q
 rcases List.mem_append.1 q with u|u
 ·exact h u
 ·exact e (List.mem_singleton.1 u).symm
theorem O5 {r:Fr} {va:Value} {cs:List Value} {xs:List aP} {x:aP} (ha:aj cq r va xs) (h:cq.rel r cs x):ay prog 60 #[va,.agg cs.toArray] r [] (aL fun v U=>v=.bool (decide (x∈xs))∧U=[]):=by
 have har:=ha;have hbd:=ha.bound;have h0:=h;obtain ⟨a1,c1,rfl⟩:=ha.shape;obtain ⟨a3,a5,a6,c3,dP,dF,rfl,_⟩:=cq.sh h;refine ay.of (n:=18) _ rfl func60 rfl rfl rfl fun g hg R hR=>?_;have ha:=ha.mono hg;have h0:=h0.mono hg;refine S.seq<|S.region rfl<|O.aM (.p rfl) (.box (cs:=[_,_,_,_,_,_,_]) rfl rfl) ?_;rintro _ _ ⟨b3,rfl,rfl⟩;refine O.q 1 rfl<|O.nil<|S.seq<|S.seq<|S.c7 (b:=b3) (cs' :=[.string (str x.1),.int .i64 x.2.1,.int .i64 x.2.2.1,.slice a3 x.2.2.2.1.length c3,.bool x.2.2.2.2.1,.slice a5 x.2.2.2.2.2.1.length dP,.slice a6 x.2.2.2.2.2.2.1.length dF]) ai rfl ?_;refine S.cW ai fun g hs hm h3=>?_;replace hg:=Fr.aH hg hs;replace hR:=bp hR hm
 try replace ha:=ha.mono hs
 try replace h0:=h0.mono hs
 clear hs hm;refine S.region rfl<|O.q 1 rfl<|O.nil<|S.block<|S.e6 (ι:=Nat) (fun i=>i≤xs.length∧x ∉ xs.take i) (fun i=>[(5,.int .i64 (i:Int))]) [(0,_),(3,_)] (fun i=>[]) (fun i=>xs.length - i) (0) (by exact ⟨Nat.zero_le _,fun q=>by cases q⟩) (.cons rfl (.nil)) (.cons rfl (.cons rfl (.nil))) rfl fun i hx ih=>?_;have aX:=cL (g:=g);obtain ⟨hx1,hx2⟩:=hx;refine S.seq<|S.seq<|S.region rfl<|O.q 2 rfl<|O.op (.p rfl) (.len rfl underlying22 rfl)<|O.op (.p rfl) (.lss rfl rfl)<|O.nil ?_
 first|refine S.cc rfl (fun h9=>?_) (fun h9=>?_)|refine S.b7 rfl (fun h9=>?_) (fun h9=>?_)
 ·have hi:i<xs.length:=by omega
  by_cases e:xs[i]=x
  ·have hm:x∈xs:=e ▸ List.getElem_mem hi
   clear ih;refine S.skip<|S.seq<|S.block<|S.seq<|S.bB (L:=[0,1,2,3,4,5]) bA aa<|af.q 2 rfl<|af.ib (.p rfl) underlying22 nQ rfl rfl rfl har hg (h:=fun sq sY kY mg=>?_);have kZ:=ag.rel.mono mg hg;obtain ⟨UF,UJ,UN,US,UX,U1,rfl,DK,PO,PU,OG,OP,OT⟩:=cq.sh kZ;refine .quiet (.p rfl) rfl (fun _=>.bz isAgg102 aa rfl kY) ?_;refine .quiet (.p rfl) rfl (fun _=>.bz isAgg102 aa rfl h3) ?_;refine af.aB (.p rfl) aa rfl aa rfl rfl ((A5 kZ h0)) ?_;rintro _ _ ⟨rfl,rfl⟩
   try simp only [an,aq,au]
   refine af.sT 17 rfl (by exact decide_eq_true e) ?_;refine aI.nil<|S.bx rfl<|S.seq<|S.region rfl<|O.q 1 rfl<|O.nil ?_;exact S.rt results60 rfl hR ⟨congrArg Value.bool (decide_eq_true hm).symm,rfl⟩
  ·
   refine S.skip<|S.seq<|S.block<|S.seq<|S.bB (L:=[0,1,2,3,4,5]) bA aa<|af.q 2 rfl<|af.ib (.p rfl) underlying22 nQ rfl rfl rfl har hg (h:=fun sq sY kY mg=>?_);have kZ:=ag.rel.mono mg hg;obtain ⟨UF,UJ,UN,US,UX,U1,rfl,DK,PO,PU,OG,OP,OT⟩:=cq.sh kZ;refine .quiet (.p rfl) rfl (fun _=>.bz isAgg102 aa rfl kY) ?_;refine .quiet (.p rfl) rfl (fun _=>.bz isAgg102 aa rfl h3) ?_;refine af.aB (.p rfl) aa rfl aa rfl rfl ((A5 kZ h0)) ?_;rintro _ _ ⟨rfl,rfl⟩
   try simp only [an,aq,au]
   refine af.aN 17 rfl (by exact decide_eq_false e) ?_;refine aI.nil<|S.aQ rfl<|S.skip<|S.inBlock<|S.region rfl<|O.q 1 rfl<|O.op (.p rfl) (.add rfl rfl (IntWalk.i64_in _ ah))<|O.q 1 rfl<|O.nil ?_;have hnt:=TD hi hx2 e;exact S.dz (ih (i+1) (by exact ⟨by omega,hnt⟩) ah)
 ·clear ih
  have hi:i=xs.length:=by omega
  subst hi;rw [List.take_length] at hx2;refine S.exit rfl<|S.seq<|S.region rfl<|O.q 1 rfl<|O.nil ?_;exact S.rt results60 rfl hR ⟨congrArg Value.bool (decide_eq_false hx2).symm,rfl⟩
theorem TH {l:List aP} (h:gP l=true) {y:aP} (hy:y∈l):y.1=(l[0]'(List.length_pos_of_mem hy)).1:=by
 obtain ⟨i,hi,rfl⟩:=List.mem_iff_getElem.1 hy;exact (vQ.1 h i hi).2
theorem Vk {s:Nat} {L:List aG} (h:iv s L) {p:List UInt8} {y:aP} (hy:y∈oD (bw L p)):y∈nB L y.1:=by
 obtain ⟨l,hl,oq⟩:=List.mem_flatten.1 hy;obtain ⟨x,hx,rfl⟩:=List.mem_map.1 hl;have I4:x∈L:=by
  rcases Lj L p with q|q
  ·rw [q] at hx;cases hx
  ·rw [q] at hx;exact (List.mem_filter.1 hx).1
 have hk:=vF.1 (h.1 x I4).1;have h1:=TH hk.2.2.1.1 oq;have h0:=hk.2.2.2 hk.2.1;rw [h1,h0,Og h.2 I4];exact oq
theorem Vf {x:dJ} (h:x.2.2.2.1.length≤100000∧∀ y∈x.2.2.2.1,y.2.1.length≤100000):(oD x).length≤10000000000:=EE (N:=100000) (M:=100000) _ h.2 h.1
theorem JY {L:List aG} {p:List UInt8} (h:js p):lG L p=bw L p:=by unfold lG;rw [if_pos h]
theorem Mg {L:List aG} {F:List UInt8→List UInt8} {p:List UInt8} {x:dJ}:(gw L F p x).Nodup∧∀ q∈gw L F p x,q=p++[48]∨q=p++[49]:=by
 unfold gw
 split
 ·exact ⟨(Lr p).sublist List.filter_sublist,fun q hq=>Lq (GB.1 hq).1⟩
 ·exact ⟨.nil,fun q hq=>by cases hq⟩
theorem Mh {s:Nat} {L:List aG} {F:List UInt8→List UInt8} {p xs:List UInt8} {x:dJ} (hf:p5 s p xs x) (hp:p.length≤510) (h:gw L F p x≠[]):p.length<510:=by
 unfold gw at h
 split at h
 ·rename_i q
  have:=hf.2.2.1
  rcases Nat.lt_or_ge p.length 510 with u|u
  ·exact u
  ·exact absurd ⟨q,by omega⟩ this
 ·exact absurd rfl h
set_option maxHeartbeats 1600000 in
theorem V6 {r:Fr} {z:Int} {va je Lz:Value} {l l2 l3:List aG} (hz:cG z) (ha:aj bW r va l) (hb:aj bW r je l2) (hc:aj bW r Lz l3) (hH:At r ⟨0,0,none⟩ (bR er)) (hK:At r ⟨1,0,none⟩ (bR gr)) :
  ay prog 10 #[.int .i64 z,va,je,Lz] r [] (aL fun v U=>v=.bool true∧U=[]):=by
 obtain ⟨a1,c1,rfl⟩:=ha.shape;obtain ⟨a2,c2,rfl⟩:=hb.shape;obtain ⟨a3,c3,rfl⟩:=hc.shape;obtain ⟨s,hs,hs4⟩:=Ub z (n:=4) aC;have hs' :pick z 4=(s:Int):=hs;refine ay.of (n:=150) _ rfl func10 rfl rfl rfl fun g hg R hR=>?_;have ha:=ha.mono hg;have hb:=hb.mono hg;have hc:=hc.mono hg;have hH:=hH.mono hg;have hK:=hK.mono hg;refine S.seq<|S.region rfl<|O.q 1 rfl<|O.nil<|S.seq<|S.seq<|S.region rfl<|O.aB (.p rfl) rfl aa rfl rfl ((Mk hH hK)) ?_;rintro _ _ ⟨rfl,rfl⟩
 try simp only [an,aq,au]
 refine O.sT 26 rfl aK ?_;refine O.op (.p rfl) (.not rfl)<|O.nil<|S.aQ rfl<|S.skip<|S.seq<|S.seq<|S.region rfl<|O.q 1 rfl<|O.aB (.p rfl) rfl aa rfl rfl ((EH ha)) ?_;rintro _ _ ⟨Z1,PZ,rfl,rfl⟩
 try simp only [an,aq,au]
 refine O.op (.p rfl) ((by first|exact .lH rfl|exact .not rfl)) ?_;refine O.q 1 rfl ?_
 first|refine O.dx 31 rfl (fun fM=>?_) (fun fM=>?_)|refine O.c_ 31 rfl (fun fM=>?_) (fun fM=>?_)
 ·refine O.q 9 rfl<|O.nil<|S.bx rfl<|S.seq<|S.region rfl<|O.q 1 rfl<|O.nil ?_
  exact S.rt results10 rfl hR ⟨rfl,rfl⟩
 ·refine O.q 1 rfl<|O.aB (.g rfl rfl) rfl aa rfl rfl ((EH hb)) ?_
  rintro _ _ ⟨vP,P0,rfl,rfl⟩
  try simp only [an,aq,au]
  refine O.op (.g rfl rfl) ((by first|exact .lH rfl|exact .not rfl)) ?_;refine O.q 2 rfl ?_
  first|refine O.dx 36 rfl (fun zD=>?_) (fun zD=>?_)|refine O.c_ 36 rfl (fun zD=>?_) (fun zD=>?_)
  ·refine O.q 4 rfl<|O.nil<|S.bx rfl<|S.seq<|S.region rfl<|O.q 1 rfl<|O.nil ?_
   exact S.rt results10 rfl hR ⟨rfl,rfl⟩
  ·refine O.q 1 rfl<|O.aB (.g rfl rfl) rfl aa rfl rfl ((EH hc)) ?_
   rintro _ _ ⟨Z2,P3,rfl,rfl⟩
   try simp only [an,aq,au]
   refine O.op (.g rfl rfl) ((by first|exact .lH rfl|exact .not rfl)) ?_;refine O.q 1 rfl<|O.nil ?_
   first|refine S.cc rfl (fun zF=>?_) (fun zF=>?_)|refine S.b7 rfl (fun zF=>?_) (fun zF=>?_)
   ·refine S.seq<|S.region rfl<|O.q 1 rfl<|O.nil ?_
    exact S.rt results10 rfl hR ⟨rfl,rfl⟩
   ·obtain ⟨rV,_,IB⟩:=PZ (by simpa using fM)
    obtain ⟨zY,_,II⟩:=P0 (by simpa using zD);obtain ⟨hq1,_,z7⟩:=P3 (by simpa using zF);have fI:∀ y∈l,y.2.1.length≤10000000:=fun y hy=>by have:=(IB y hy).2.1;omega
    have cI:∀ y∈l2,y.2.1.length≤10000000:=fun y hy=>by have:=(II y hy).2.1;omega
    have hsw:∀ y∈l3,y.2.1.length≤10000000:=fun y hy=>by have:=(z7 y hy).2.1;omega
    have hT:gK g.h Fr.emp s []:=⟨Fr.cV _,iv.nil s,⟨by simp,fun _ h=>by cases h⟩,hH,hK⟩;have zG:=Fg s l;have HY:=Ff s rV fun y hy=>(IB y hy).2.1;have vm:=Fg s l2;have C7:=Ff s zY fun y hy=>(II y hy).2.1;have C8:=Fg s l3;have zH:=Ff s hq1 fun y hy=>(z7 y hy).2.1;refine S.skip<|S.seq<|S.region rfl<|O.q 1 rfl<|O.aB (.p rfl) rfl aa rfl rfl ((LZ _ _ (by constructor<;>decide))) ?_;rintro _ _ ⟨rfl,rfl⟩
    try simp only [an,aq,au]
    refine O.slot 42 (v' :=.int .i64 (s:Int)) rfl (by rw [hs']) ?_;refine O.q 1 rfl<|O.nil<|S.seq<|S.region rfl<|O.q 1 rfl<|O.aB (.p rfl) rfl aa rfl rfl ((EO hs4)) ?_;rintro _ _ ⟨yX,rfl,rfl⟩
    try simp only [an,aq,au]
    refine O.q 1 rfl<|O.aB (.p rfl) rfl aa rfl rfl ((EO hs4)) ?_;rintro _ _ ⟨qw,rfl,rfl⟩
    try simp only [an,aq,au]
    refine O.q 1 rfl<|O.aB (.p rfl) rfl aa rfl rfl ((EO hs4)) ?_;rintro _ _ ⟨uW,rfl,rfl⟩
    try simp only [an,aq,au]
    refine O.q 3 rfl<|O.nil<|S.seq<|S.region rfl<|O.q 2 rfl<|O.bM (.p rfl) rfl aa rfl rfl ai (FJ (b:=yX) hT ha b5 fI) ?_;rintro _ _ ⟨rfl,rfl⟩
    try simp only [an,aq,au]
    refine O.nil<|S.seq<|S.region rfl<|O.q 2 rfl<|O.bM (.p rfl) rfl aa rfl rfl ai (FJ (b:=qw) hT hb b5 cI) ?_;rintro _ _ ⟨rfl,rfl⟩
    try simp only [an,aq,au]
    refine O.nil<|S.seq<|S.region rfl<|O.q 2 rfl<|O.bM (.p rfl) rfl aa rfl rfl ai (FJ (b:=uW) hT hc b5 hsw) ?_;rintro _ _ ⟨rfl,rfl⟩
    try simp only [an,aq,au]
    refine O.nil (S.seq ?_);generalize (if jt s l=0 then fQ [] l else [])=jA at zG HY ⊢;generalize (if jt s l2=0 then fQ [] l2 else [])=dg at vm C7 ⊢;generalize (if jt s l3=0 then fQ [] l3 else [])=dr at C8 zH ⊢;have eM:gK g.h Fr.emp s dg:=⟨Fr.cV _,vm,wG C7,hH,hK⟩;have e_:gK g.h Fr.emp s dr:=⟨Fr.cV _,C8,wG zH,hH,hK⟩;refine S.open (bs:=fun k:Fr=>[jK k,dX aJ Fr.emp k yX s jA]) ai (fun m x=>x) fun k=>?_;simp only [List.cons_append,List.nil_append];refine S.d_ (A:=jK k) ai fun g hs hm ⟨_,x',s'⟩=>?_;have hk:=Jk s' x';clear x' s';replace hg:=Fr.aH hg hs;replace hR:=bp hR hm
    try replace ha:=ha.mono hs
    try replace hb:=hb.mono hs
    try replace hc:=hc.mono hs
    try replace hH:=hH.mono hs
    try replace hK:=hK.mono hs
    try replace hT:=hT.mono hs
    try replace eM:=eM.mono hs
    try replace e_:=e_.mono hs
    clear hs hm;obtain ⟨e,he⟩:∃ e:Fr,e=g.h:=⟨_,rfl⟩;have eo:gK g.h e s jA:=⟨he ▸ Fr.bU _,zG,wG HY,hH,hK⟩;refine S.cB (A:=dX aJ e Fr.emp yX s jA) (bs:=[dX aJ Fr.emp k yX s jA]) bf (fun m h=>Lm (Fr.cV _) (he ▸ hk) h) ?_;refine S.region rfl<|O.q 1 rfl<|O.bM (.p rfl) rfl aa rfl rfl ai (FA (peer:=3) (tY:=1) eo hs4 aC aC) ?_;rintro _ _ ⟨bh,rfl,rfl⟩
    try simp only [an,aq,au]
    refine O.q 1 rfl<|O.nil<|S.seq<|S.cB (A:=cN aJ 89 e bh s jA 3 false [] (bZ dg) 0) (bs:=[fD e bh s jA 3 false]) bf (fun m h=>Uh _ h) ?_;have zI:(bZ dg []).length=64:=qn vm [];have xN:ek (s:Int) (bZ dg [])=lM (4::Sp.byteOf (s:Int)::bZ dg []):=by unfold ek;rw [if_pos ⟨by omega,by omega,zI⟩]
    have jF:(ek (s:Int) (bZ dg [])).length=64:=by rw [xN,qj]
    have QK:=WI dg;have QG:oE ((3,(s:Int),1,ek (s:Int) (bZ dg []),List.replicate 64 0,()):j5)=true:=Vv aC hs4 jF;refine S.region rfl<|O.q 3 rfl<|O.bM (.p rfl) rfl aa rfl rfl ai (FL (b:=qw) eM hs4) ?_;rintro _ _ ⟨a64,X3,rfl,rfl⟩
    try simp only [an,aq,au]
    refine O.fo ai fun g hs hm gb=>?_;replace hg:=Fr.aH hg hs;replace hR:=bp hR hm
    try replace ha:=ha.mono hs
    try replace hb:=hb.mono hs
    try replace hc:=hc.mono hs
    try replace hH:=hH.mono hs
    try replace hK:=hK.mono hs
    try replace hT:=hT.mono hs
    try replace eM:=eM.mono hs
    try replace e_:=e_.mono hs
    try replace hk:=hk.mono hs
    try replace eo:=eo.mono hs
    clear hs hm;refine O.aB (.p rfl) rfl aa rfl rfl ((E2)) ?_;rintro _ _ ⟨XX,X4,rfl,rfl⟩
    try simp only [an,aq,au]
    refine O.fo ai fun g hs hm gA=>?_;replace hg:=Fr.aH hg hs;replace hR:=bp hR hm
    try replace ha:=ha.mono hs
    try replace hb:=hb.mono hs
    try replace hc:=hc.mono hs
    try replace hH:=hH.mono hs
    try replace hK:=hK.mono hs
    try replace hT:=hT.mono hs
    try replace eM:=eM.mono hs
    try replace e_:=e_.mono hs
    try replace hk:=hk.mono hs
    try replace eo:=eo.mono hs
    try replace gb:=gb.mono hs
    clear hs hm;refine O.q 1 rfl<|O.bM (.p rfl) rfl aa rfl rfl ai (v8 (b:=qw) (p:=[]) eM bI) ?_;rintro _ _ ⟨a67,X5,rfl,rfl⟩
    try simp only [an,aq,au]
    rw [QK];refine O.fo ai fun g hs hm hG=>?_;replace hg:=Fr.aH hg hs;replace hR:=bp hR hm
    try replace ha:=ha.mono hs
    try replace hb:=hb.mono hs
    try replace hc:=hc.mono hs
    try replace hH:=hH.mono hs
    try replace hK:=hK.mono hs
    try replace hT:=hT.mono hs
    try replace eM:=eM.mono hs
    try replace e_:=e_.mono hs
    try replace hk:=hk.mono hs
    try replace eo:=eo.mono hs
    try replace gb:=gb.mono hs
    try replace gA:=gA.mono hs
    clear hs hm;refine O.bM (.p rfl) rfl aa rfl rfl ai (VS (x:=(3,(s:Int),1,ek (s:Int) (bZ dg []),List.replicate 64 0,())) eo hs4 (jg.mk ⟨by decide,by decide⟩ ⟨by omega,by omega⟩ ⟨by decide,by decide⟩ gb gA) QG rfl hG zI rfl rfl bI ah) ?_;rintro _ _ ⟨BL,B2,rfl,rfl⟩
    try simp only [an,aq,au]
    refine O.q 5 rfl<|O.nil<|S.seq<|S.seq<|S.region rfl<|O.q 1 rfl<|O.op (.p rfl) (.neq rfl rfl)<|O.aN 72 rfl aK ?_;refine O.nil<|S.aQ rfl<|S.skip (S.seq (S.seq ?_));obtain ⟨o0,n0,PF,DJ,hn0⟩:∃ o0:List (List UInt8),∃ n0:Nat,kv o0 o0 0 n0∧o0=dh jA (bZ dg) [[]]∧n0=0+(dh jA (bZ dg) [[]]).length:=by
     rcases Mf jA (bZ dg) [] with q|q
     ·exact ⟨[],0,kv.nil,q.symm,by rw [q];rfl⟩
     ·exact ⟨[[]],1,kv.one,q.symm,by rw [q];rfl⟩
    rw [← DJ] at hn0 ⊢;rw [← hn0];refine S.pk (ζ:=[bl aJ Fr.emp qw s dg,bl aJ Fr.emp uW s dr,cN aJ 89 e bh s jA 3 true o0 (bZ dg) n0,av ag.str 9 (.slice (BL,B2).1 o0.length (BL,B2).2) o0]) jx ?_;refine S.region rfl<|O.q 1 rfl<|O.nil<|S.block<|S.x6 (ι:=Nat) (dI:=List (List UInt8) × List (List UInt8) × Nat) (jI:=Option Addr × Nat) (fun i st u=>i≤20000∧kv st.1 st.2.1 i st.2.2) (fun i st u=>[(16,.int .i64 (i:Int)),(14,.slice u.1 st.1.length u.2)]) [(11,_),(12,_),(13,_)] (fun i st u=>[bl aJ Fr.emp qw s dg,bl aJ Fr.emp uW s dr,cN aJ 89 e bh s jA 3 true st.2.1 (bZ dg) st.2.2,av ag.str 9 (.slice u.1 st.1.length u.2) st.1]) (fun i st u=>20000 - i) (0) ((o0,o0,n0)) ((BL,B2)) (by exact ⟨Nat.zero_le _,PF⟩) (.cons rfl (.cons rfl (.nil))) (.cons rfl (.cons rfl (.cons rfl (.nil)))) rfl fun i st u hx ih=>?_;have aX:=cL (g:=g);obtain ⟨hx1,hlo⟩:=hx;have eT:=hlo.bo;have YT:=hlo.uX
    by_cases hi:i<st.1.length
    ·by_cases YE:i<20000
     ·obtain ⟨D0,D4⟩:=hlo.at hi
      have IK:=D4.1;have C_:(bZ dg st.1[i]).length=64:=qn vm _;have DI:=WY (p:=st.1[i]) (L:=dr) ah (fun y hy=>by have:=zH.2 y hy;omega);have hx0:=Au (Bc C8 st.1[i]);have qW:(bw dr st.1[i]).2.2.2.1.length≤10000000∧∀ y∈(bw dr st.1[i]).2.2.2.1,y.2.1.length≤10000000:=FR (wG zH) _;have hy0:=Au (Bc vm st.1[i]);have I5:(bw dg st.1[i]).2.2.2.1.length≤10000000∧∀ y∈(bw dg st.1[i]).2.2.2.1,y.2.1.length≤10000000:=FR (wG C7) _;refine S.seq<|S.seq<|S.region rfl<|O.q 2 rfl<|O.op (.p rfl) (.len rfl underlying53 rfl)<|O.op (.p rfl) (.lss rfl rfl)<|O.sT 76 rfl (by exact decide_eq_true ah) ?_;refine O.q 2 rfl<|O.op (.g rfl rfl) (.lss rfl rfl)<|O.sT 79 rfl (by exact decide_eq_true ah) ?_;refine O.q 1 rfl<|O.nil<|S.bx rfl<|S.skip<|S.seq<|S.block<|S.seq<|S.region rfl<|O.q 2 rfl<|O.aM (.p rfl) (.ot (T:=ag.str) underlying53 gG rfl rfl (show _=(((i):Nat):Int) by omega) ai oM) ?_;rintro _ _ ⟨aaj,rfl,Qm,rfl⟩;refine O.op (.p rfl) (.JE bL rfl Qm rfl ai oM ((by rintro _ ⟨rfl,_⟩;rfl))) ?_;refine O.q 1 rfl<|O.nil<|S.seq<|S.region rfl<|O.q 2 rfl<|O.bM (.p rfl) rfl aa rfl rfl ai (Lf (b:=uW) (p:=st.1[i]) e_ ah) ?_;rintro _ _ ⟨q1,d1,q2,d2,cF,d3,rfl,rfl⟩
      try simp only [an,aq,au]
      rw [JY D4];refine O.q 3 rfl<|O.aM (.p rfl) (.alloc (cs:=[.int .u8 0,.slice none 0 0,.slice none 0 0,.slice none 0 0]) zeroValue27 rfl) ?_;rintro _ _ ⟨yW,rfl,rfl⟩;refine O.bu rfl (.cZ aa rfl rfl rfl rfl ai aW) ?_;refine O.q 1 rfl<|O.nil<|S.seq<|S.c7 (b:=yW) (cs' :=[bD (bw dr st.1[i]).1,.slice q1 (bw dr st.1[i]).2.1.length d1,.slice q2 (bw dr st.1[i]).2.2.1.length d2,.slice cF (bw dr st.1[i]).2.2.2.1.length d3]) ai rfl ?_;refine S.cW ai fun g hs hm gm=>?_;replace hg:=Fr.aH hg hs;replace hR:=bp hR hm
      try replace ha:=ha.mono hs
      try replace hb:=hb.mono hs
      try replace hc:=hc.mono hs
      try replace hH:=hH.mono hs
      try replace hK:=hK.mono hs
      try replace hT:=hT.mono hs
      try replace eM:=eM.mono hs
      try replace e_:=e_.mono hs
      try replace hk:=hk.mono hs
      try replace eo:=eo.mono hs
      try replace gb:=gb.mono hs
      try replace gA:=gA.mono hs
      try replace hG:=hG.mono hs
      replace aX:=dH aX hm;clear hs hm;refine S.d_ (A:=av ag.u8 5 (.slice q1 (bw dr st.1[i]).2.1.length d1) (bw dr st.1[i]).2.1) ai fun g hs hm ⟨_,x',s'⟩=>?_;have jk:=(fun s x=>aj.mono s (av.arr x)) s' x';clear x' s';replace hg:=Fr.aH hg hs;replace hR:=bp hR hm
      try replace ha:=ha.mono hs
      try replace hb:=hb.mono hs
      try replace hc:=hc.mono hs
      try replace hH:=hH.mono hs
      try replace hK:=hK.mono hs
      try replace hT:=hT.mono hs
      try replace eM:=eM.mono hs
      try replace e_:=e_.mono hs
      try replace hk:=hk.mono hs
      try replace eo:=eo.mono hs
      try replace gb:=gb.mono hs
      try replace gA:=gA.mono hs
      try replace hG:=hG.mono hs
      try replace gm:=gm.mono hs
      replace aX:=dH aX hm;clear hs hm;refine S.d_ (A:=av ag.u8 5 (.slice q2 (bw dr st.1[i]).2.2.1.length d2) (bw dr st.1[i]).2.2.1) ai fun g hs hm ⟨_,x',s'⟩=>?_;have hn2:=(fun s x=>aj.mono s (av.arr x)) s' x';clear x' s';replace hg:=Fr.aH hg hs;replace hR:=bp hR hm
      try replace ha:=ha.mono hs
      try replace hb:=hb.mono hs
      try replace hc:=hc.mono hs
      try replace hH:=hH.mono hs
      try replace hK:=hK.mono hs
      try replace hT:=hT.mono hs
      try replace eM:=eM.mono hs
      try replace e_:=e_.mono hs
      try replace hk:=hk.mono hs
      try replace eo:=eo.mono hs
      try replace gb:=gb.mono hs
      try replace gA:=gA.mono hs
      try replace hG:=hG.mono hs
      try replace gm:=gm.mono hs
      try replace jk:=jk.mono hs
      replace aX:=dH aX hm;clear hs hm;refine S.d_ (A:=cH (en cD) 31 (.slice cF (bw dr st.1[i]).2.2.2.1.length d3) (bw dr st.1[i]).2.2.2.1) ai fun g hs hm ⟨_,x',s'⟩=>?_;have kg:=(fun s x=>(cH.arr x).mono s) s' x';clear x' s';replace hg:=Fr.aH hg hs;replace hR:=bp hR hm
      try replace ha:=ha.mono hs
      try replace hb:=hb.mono hs
      try replace hc:=hc.mono hs
      try replace hH:=hH.mono hs
      try replace hK:=hK.mono hs
      try replace hT:=hT.mono hs
      try replace eM:=eM.mono hs
      try replace e_:=e_.mono hs
      try replace hk:=hk.mono hs
      try replace eo:=eo.mono hs
      try replace gb:=gb.mono hs
      try replace gA:=gA.mono hs
      try replace hG:=hG.mono hs
      try replace gm:=gm.mono hs
      try replace jk:=jk.mono hs
      try replace hn2:=hn2.mono hs
      replace aX:=dH aX hm;clear hs hm;have jl:gv.rel g.h [bD (bw dr st.1[i]).1,.slice q1 (bw dr st.1[i]).2.1.length d1,.slice q2 (bw dr st.1[i]).2.2.1.length d2,.slice cF (bw dr st.1[i]).2.2.2.1.length d3] (bw dr st.1[i]):=gv.mk jk hn2 kg;refine S.region rfl<|O.q 2 rfl<|O.bM (.p rfl) rfl aa rfl rfl ai (Lf (b:=qw) (p:=st.1[i]) eM ah) ?_;rintro _ _ ⟨p1,e1,p2,e2,p3,bY,rfl,rfl⟩
      try simp only [an,aq,au]
      rw [JY D4];refine O.q 3 rfl<|O.aM (.p rfl) (.alloc (cs:=[.int .u8 0,.slice none 0 0,.slice none 0 0,.slice none 0 0]) zeroValue27 rfl) ?_;rintro _ _ ⟨Mm,rfl,rfl⟩;refine O.bu rfl (.cZ aa rfl rfl rfl rfl ai aW) ?_;refine O.q 1 rfl<|O.nil<|S.seq<|S.c7 (b:=Mm) (cs' :=[bD (bw dg st.1[i]).1,.slice p1 (bw dg st.1[i]).2.1.length e1,.slice p2 (bw dg st.1[i]).2.2.1.length e2,.slice p3 (bw dg st.1[i]).2.2.2.1.length bY]) ai rfl ?_;refine S.cW ai fun g hs hm fL=>?_;replace hg:=Fr.aH hg hs;replace hR:=bp hR hm
      try replace ha:=ha.mono hs
      try replace hb:=hb.mono hs
      try replace hc:=hc.mono hs
      try replace hH:=hH.mono hs
      try replace hK:=hK.mono hs
      try replace hT:=hT.mono hs
      try replace eM:=eM.mono hs
      try replace e_:=e_.mono hs
      try replace hk:=hk.mono hs
      try replace eo:=eo.mono hs
      try replace gb:=gb.mono hs
      try replace gA:=gA.mono hs
      try replace hG:=hG.mono hs
      try replace gm:=gm.mono hs
      try replace jk:=jk.mono hs
      try replace hn2:=hn2.mono hs
      try replace kg:=kg.mono hs
      try replace jl:=jl.mono hs
      replace aX:=dH aX hm;clear hs hm;refine S.d_ (A:=av ag.u8 5 (.slice p1 (bw dg st.1[i]).2.1.length e1) (bw dg st.1[i]).2.1) ai fun g hs hm ⟨_,x',s'⟩=>?_;have nK:=(fun s x=>aj.mono s (av.arr x)) s' x';clear x' s';replace hg:=Fr.aH hg hs;replace hR:=bp hR hm
      try replace ha:=ha.mono hs
      try replace hb:=hb.mono hs
      try replace hc:=hc.mono hs
      try replace hH:=hH.mono hs
      try replace hK:=hK.mono hs
      try replace hT:=hT.mono hs
      try replace eM:=eM.mono hs
      try replace e_:=e_.mono hs
      try replace hk:=hk.mono hs
      try replace eo:=eo.mono hs
      try replace gb:=gb.mono hs
      try replace gA:=gA.mono hs
      try replace hG:=hG.mono hs
      try replace gm:=gm.mono hs
      try replace jk:=jk.mono hs
      try replace hn2:=hn2.mono hs
      try replace kg:=kg.mono hs
      try replace jl:=jl.mono hs
      try replace fL:=fL.mono hs
      replace aX:=dH aX hm;clear hs hm;refine S.d_ (A:=av ag.u8 5 (.slice p2 (bw dg st.1[i]).2.2.1.length e2) (bw dg st.1[i]).2.2.1) ai fun g hs hm ⟨_,x',s'⟩=>?_;have pI:=(fun s x=>aj.mono s (av.arr x)) s' x';clear x' s';replace hg:=Fr.aH hg hs;replace hR:=bp hR hm
      try replace ha:=ha.mono hs
      try replace hb:=hb.mono hs
      try replace hc:=hc.mono hs
      try replace hH:=hH.mono hs
      try replace hK:=hK.mono hs
      try replace hT:=hT.mono hs
      try replace eM:=eM.mono hs
      try replace e_:=e_.mono hs
      try replace hk:=hk.mono hs
      try replace eo:=eo.mono hs
      try replace gb:=gb.mono hs
      try replace gA:=gA.mono hs
      try replace hG:=hG.mono hs
      try replace gm:=gm.mono hs
      try replace jk:=jk.mono hs
      try replace hn2:=hn2.mono hs
      try replace kg:=kg.mono hs
      try replace jl:=jl.mono hs
      try replace fL:=fL.mono hs
      try replace nK:=nK.mono hs
      replace aX:=dH aX hm;clear hs hm;refine S.d_ (A:=cH (en cD) 31 (.slice p3 (bw dg st.1[i]).2.2.2.1.length bY) (bw dg st.1[i]).2.2.2.1) ai fun g hs hm ⟨_,x',s'⟩=>?_;have qU:=(fun s x=>(cH.arr x).mono s) s' x';clear x' s';replace hg:=Fr.aH hg hs;replace hR:=bp hR hm
      try replace ha:=ha.mono hs
      try replace hb:=hb.mono hs
      try replace hc:=hc.mono hs
      try replace hH:=hH.mono hs
      try replace hK:=hK.mono hs
      try replace hT:=hT.mono hs
      try replace eM:=eM.mono hs
      try replace e_:=e_.mono hs
      try replace hk:=hk.mono hs
      try replace eo:=eo.mono hs
      try replace gb:=gb.mono hs
      try replace gA:=gA.mono hs
      try replace hG:=hG.mono hs
      try replace gm:=gm.mono hs
      try replace jk:=jk.mono hs
      try replace hn2:=hn2.mono hs
      try replace kg:=kg.mono hs
      try replace jl:=jl.mono hs
      try replace fL:=fL.mono hs
      try replace nK:=nK.mono hs
      try replace pI:=pI.mono hs
      replace aX:=dH aX hm;clear hs hm;have hmr:gv.rel g.h [bD (bw dg st.1[i]).1,.slice p1 (bw dg st.1[i]).2.1.length e1,.slice p2 (bw dg st.1[i]).2.2.1.length e2,.slice p3 (bw dg st.1[i]).2.2.2.1.length bY] (bw dg st.1[i]):=gv.mk nK pI qU
      by_cases hfit:p5 s st.1[i] (bZ dg st.1[i]) (bw dr st.1[i])
      ·by_cases heq:(bw dr st.1[i])=(bw dg st.1[i])
       ·obtain ⟨F',tq⟩:∃ F' :List UInt8→List UInt8,F' =bZ dg:=⟨_,rfl⟩
        have Da:∀ q∈st.2.1,bZ dg q=F' q:=fun q _=>by rw [tq]
        have C9:(bw dr st.1[i]).1=3→F' (st.1[i]++[48])=(bw dr st.1[i]).2.1∧F' (st.1[i]++[49])=(bw dr st.1[i]).2.2.1∧st.1[i]++[48] ∉ st.2.1∧st.1[i]++[49] ∉ st.2.1:=fun q=>by
         rw [heq] at q ⊢;have:=WV IK q;rw [tq];exact ⟨this.1,this.2,fun w=>hlo.fresh hi 48 (hlo.sub _ w),fun w=>hlo.fresh hi 49 (hlo.sub _ w)⟩
        obtain ⟨Oq,Oo⟩:=Mg (L:=jA) (F:=F') (p:=st.1[i]) (x:=(bw dr st.1[i]));have HX:=BP jA F' st.1[i] (bw dr st.1[i]);have PG:=hlo.told hi Oq Oo HX (Mh hfit IK);have IV:∀ y∈(oD (bw dr st.1[i])),y∈nB dg y.1:=fun y hy=>Vk vm (heq ▸ hy);have hrb:=Vf DI;refine S.region rfl<|O.q 2 rfl<|O.op (.p rfl) (.bz isAgg27 aa rfl gm) ?_;refine O.bM (.p rfl) rfl aa rfl rfl ai (KL (F:=bZ dg) (F' :=F') eo aC jl D0 C_ DI ah hfit ah Da C9) ?_;rintro _ _ ⟨ra,rc,oB,qg,rfl,rfl⟩
        try simp only [an,aq,au]
        refine O.q 7 rfl<|O.nil<|S.seq<|S.seq<|S.region rfl<|O.q 1 rfl<|O.op (.p rfl) (.neq rfl rfl)<|O.aN 108 rfl aK ?_;refine O.nil<|S.aQ rfl<|S.skip<|S.seq<|S.d_ (A:=av ag.str 9 (.slice oB (gw jA F' st.1[i] (bw dr st.1[i])).length qg) (gw jA F' st.1[i] (bw dr st.1[i]))) ai fun g hs hm ⟨_,x',s'⟩=>?_;have hasks:=(fun s x=>aj.mono s (av.arr x)) s' x';clear x' s';replace hg:=Fr.aH hg hs;replace hR:=bp hR hm
        try replace ha:=ha.mono hs
        try replace hb:=hb.mono hs
        try replace hc:=hc.mono hs
        try replace hH:=hH.mono hs
        try replace hK:=hK.mono hs
        try replace hT:=hT.mono hs
        try replace eM:=eM.mono hs
        try replace e_:=e_.mono hs
        try replace hk:=hk.mono hs
        try replace eo:=eo.mono hs
        try replace gb:=gb.mono hs
        try replace gA:=gA.mono hs
        try replace hG:=hG.mono hs
        try replace gm:=gm.mono hs
        try replace jk:=jk.mono hs
        try replace hn2:=hn2.mono hs
        try replace kg:=kg.mono hs
        try replace jl:=jl.mono hs
        try replace fL:=fL.mono hs
        try replace nK:=nK.mono hs
        try replace pI:=pI.mono hs
        try replace qU:=qU.mono hs
        try replace hmr:=hmr.mono hs
        replace aX:=dH aX hm;clear hs hm;refine S.d_ (A:=cH (ef cD) 102 (.slice ra (oD (bw dr st.1[i])).length rc) (oD (bw dr st.1[i]))) ai fun g hs hm ⟨_,x',s'⟩=>?_;have nJ:=(fun s x=>(cH.arr x).mono s) s' x';clear x' s';replace hg:=Fr.aH hg hs;replace hR:=bp hR hm
        try replace ha:=ha.mono hs
        try replace hb:=hb.mono hs
        try replace hc:=hc.mono hs
        try replace hH:=hH.mono hs
        try replace hK:=hK.mono hs
        try replace hT:=hT.mono hs
        try replace eM:=eM.mono hs
        try replace e_:=e_.mono hs
        try replace hk:=hk.mono hs
        try replace eo:=eo.mono hs
        try replace gb:=gb.mono hs
        try replace gA:=gA.mono hs
        try replace hG:=hG.mono hs
        try replace gm:=gm.mono hs
        try replace jk:=jk.mono hs
        try replace hn2:=hn2.mono hs
        try replace kg:=kg.mono hs
        try replace jl:=jl.mono hs
        try replace fL:=fL.mono hs
        try replace nK:=nK.mono hs
        try replace pI:=pI.mono hs
        try replace qU:=qU.mono hs
        try replace hmr:=hmr.mono hs
        try replace hasks:=hasks.mono hs
        replace aX:=dH aX hm;clear hs hm;generalize (gw jA F' st.1[i] (bw dr st.1[i]))=dD at *;generalize hrc:(oD (bw dr st.1[i]))=uQ at nJ IV hrb;refine S.region rfl<|O.q 2 rfl<|O.aM (.p rfl) (.nW (T:=ag.str) Fb underlying53 gY aC rfl rfl ai (by first|assumption|exact aj.mono hg zE|exact aj.left zE|exact aj.left (aj.mono hg zE)) bJ bJ) ?_;rintro _ _ ⟨rA,rG,rfl,rfl⟩;refine O.q 1 rfl<|O.nil<|S.seq<|S.seq<|S.region rfl<|O.op (.p rfl) (.bz isAgg27 aa rfl gm) ?_;refine O.op (.p rfl) (.bz isAgg27 aa rfl fL) ?_;refine O.aB (.p rfl) rfl aa rfl rfl ((KR jl hmr)) ?_;rintro _ _ ⟨rfl,rfl⟩
        try simp only [an,aq,au]
        refine O.sT 124 rfl (by exact decide_eq_true heq) ?_;refine O.op (.p rfl) (.not rfl)<|O.nil<|S.aQ rfl<|S.skip (S.seq ?_);rw [tq];refine S.jr (T:=ag.str) (e:=9) (v' :=.slice rA (st.1++dD).length rG) (xs' :=(st.1++dD)) ai (by rw [List.length_append]) rfl ?_;refine S.slot 14 (v' :=.slice rA (st.1++dD).length rG) rfl (by rw [List.length_append]) ?_;refine S.pk (ζ:=[bl aJ Fr.emp qw s dg,bl aJ Fr.emp uW s dr,cN aJ 89 e bh s jA 3 true (st.2.1.erase st.1[i]++dD) (bZ dg) (st.2.2+dD.length),av ag.str 9 (.slice (rA,rG).1 (st.1++dD).length (rA,rG).2) (st.1++dD)]) jx ?_;refine S.region rfl<|O.q 1 rfl<|O.nil<|S.block<|S.e6 (ι:=Nat) (fun k=>k≤uQ.length) (fun k=>[(25,.int .i64 (k:Int))]) [(11,_),(12,_),(13,_),(14,_),(16,_),(22,_)] (fun k=>[bl aJ Fr.emp qw s dg,bl aJ Fr.emp uW s dr,cN aJ 89 e bh s jA 3 true (st.2.1.erase st.1[i]++dD) (bZ dg) (st.2.2+dD.length),av ag.str 9 (.slice (rA,rG).1 (st.1++dD).length (rA,rG).2) (st.1++dD)]) (fun k=>uQ.length - k) (0) bI (.cons rfl (.nil)) (.cons rfl (.cons rfl (.cons rfl (.cons rfl (.cons rfl (.cons rfl (.nil))))))) rfl fun k hx ih=>?_;have hm2:=cL (g:=g);refine S.seq<|S.seq<|S.region rfl<|O.q 2 rfl<|O.op (.p rfl) (.len rfl underlying22 rfl)<|O.op (.p rfl) (.lss rfl rfl)<|O.nil ?_
        first|refine S.cc rfl (fun CM=>?_) (fun CM=>?_)|refine S.b7 rfl (fun CM=>?_) (fun CM=>?_)
        ·have hk:k<uQ.length:=by omega
         have hin:=IV _ (List.getElem_mem hk);refine S.skip<|S.seq<|S.block<|S.seq<|S.bB (L:=[0,1,2,3,4,5,7,8,9,10,6,11,12]) bA aa<|af.q 3 rfl<|af.b8 (.p rfl) underlying22 nQ rfl rfl (show _=(((k):Nat):Int) by omega) (nJ) (h:=fun Z3 X9 P7 Qs=>?_);obtain ⟨v3,v5,v6,w3,aaN,aaO,rfl,z0,aaR,z2,z3,z5,aaS⟩:=cq.sh Qs;refine .quiet (.p rfl) rfl (fun _=>.fieldAddr e3 rfl)<|.quiet (.p rfl) rfl (fun _=>.loadAt bL rfl P7 rfl) ?_;refine af.q 2 rfl<|af.b8 (.p rfl) underlying22 nQ rfl rfl (show _=(((k):Nat):Int) by omega) (nJ) (h:=fun Z4 X_ P8 IN=>?_);have QH:=IN;obtain ⟨eH,eN,eO,Bm,LL,LM,rfl,z20,z21,z22,z23,z25,z26⟩:=cq.sh IN;refine .quiet (.p rfl) rfl (fun _=>.bz isAgg102 aa rfl P8) ?_;refine af.bM (.p rfl) aa rfl aa rfl rfl ai (WN (b:=qw) (p:=uQ[k].1) eM) ?_;rintro _ _ ⟨a143,MK,rfl,rfl⟩
         try simp only [an,aq,au]
         refine af.dw (.p rfl) aa rfl aa rfl rfl (bs:=[cH (ef cD) 102 (.slice a143 (nB dg uQ[k].1).length MK) (nB dg uQ[k].1)]) bf (fun m hm hd=>O5 ((S6 hm).mono (Fr.dL hd)) (ag.rel.mono QH (Fr.de _ _))) ?_;rintro _ _ ⟨rfl,rfl⟩
         try simp only [an,aq,au]
         refine af.sT 148 rfl (by exact decide_eq_true hin) ?_;refine .quiet (.p rfl) rfl (fun _=>.not rfl)<|aI.nil<|S.aQ rfl<|S.skip<|S.inBlock<|S.region rfl<|O.q 1 rfl<|O.op (.p rfl) (.add rfl rfl (IntWalk.i64_in _ ah))<|O.q 1 rfl<|O.nil ?_;exact S.pw (ih (k+1) ah ah)
        ·clear ih
         refine S.exit rfl<|S.inBlock<|S.region rfl<|O.q 1 rfl<|O.op (.p rfl) (.add rfl rfl (IntWalk.i64_in _ ah))<|O.q 1 rfl<|O.nil ?_;exact S.ic aX (S.pw (ih (i+1) (((st.1++dD),(st.2.1.erase st.1[i]++dD),(st.2.2+dD.length))) ((rA,rG)) (by exact ⟨by omega,PG⟩) ah))
       ·obtain ⟨F',tq⟩:∃ F' :List UInt8→List UInt8,F' =fun q=>if q=st.1[i]++[48] then (bw dr st.1[i]).2.1 else if q=st.1[i]++[49] then (bw dr st.1[i]).2.2.1 else bZ dg q:=⟨_,rfl⟩
        have hn0:st.1[i]++[48] ∉ st.2.1:=fun w=>hlo.fresh hi 48 (hlo.sub _ w);have IF :st.1[i]++[49] ∉ st.2.1:=fun w=>hlo.fresh hi 49 (hlo.sub _ w);have Da:∀ q∈st.2.1,bZ dg q=F' q:=fun q hq=>by
         rw [tq];show _=if q=st.1[i]++[48] then _ else _;rw [if_neg (fun w=>hn0 (by rw [← w];exact hq)),if_neg (fun w=>IF (by rw [← w];exact hq))]
        have C9:(bw dr st.1[i]).1=3→F' (st.1[i]++[48])=(bw dr st.1[i]).2.1∧F' (st.1[i]++[49])=(bw dr st.1[i]).2.2.1∧st.1[i]++[48] ∉ st.2.1∧st.1[i]++[49] ∉ st.2.1:=fun q=>by
         refine ⟨by rw [tq];exact if_pos rfl,?_,hn0,IF⟩;rw [tq];show (if st.1[i]++[49]=st.1[i]++[48] then _ else _)=_;rw [if_neg (fun w=>absurd (List.append_cancel_left w) aC),if_pos rfl]
        have HX:=BP jA F' st.1[i] (bw dr st.1[i]);have hsum:fP (bw dr st.1[i])=fP (bw dg st.1[i]):=hfit.2.1.trans (Ln dg _).symm;refine S.region rfl<|O.q 2 rfl<|O.op (.p rfl) (.bz isAgg27 aa rfl gm) ?_;refine O.bM (.p rfl) rfl aa rfl rfl ai (KL (F:=bZ dg) (F' :=F') eo aC jl D0 C_ DI ah hfit ah Da C9) ?_;rintro _ _ ⟨ra,rc,oB,qg,rfl,rfl⟩
        try simp only [an,aq,au]
        refine O.q 7 rfl<|O.nil<|S.seq<|S.seq<|S.region rfl<|O.q 1 rfl<|O.op (.p rfl) (.neq rfl rfl)<|O.aN 108 rfl aK ?_;refine O.nil<|S.aQ rfl<|S.skip<|S.seq<|S.d_ (A:=av ag.str 9 (.slice oB (gw jA F' st.1[i] (bw dr st.1[i])).length qg) (gw jA F' st.1[i] (bw dr st.1[i]))) ai fun g hs hm ⟨_,x',s'⟩=>?_;have hasks:=(fun s x=>aj.mono s (av.arr x)) s' x';clear x' s';replace hg:=Fr.aH hg hs;replace hR:=bp hR hm
        try replace ha:=ha.mono hs
        try replace hb:=hb.mono hs
        try replace hc:=hc.mono hs
        try replace hH:=hH.mono hs
        try replace hK:=hK.mono hs
        try replace hT:=hT.mono hs
        try replace eM:=eM.mono hs
        try replace e_:=e_.mono hs
        try replace hk:=hk.mono hs
        try replace eo:=eo.mono hs
        try replace gb:=gb.mono hs
        try replace gA:=gA.mono hs
        try replace hG:=hG.mono hs
        try replace gm:=gm.mono hs
        try replace jk:=jk.mono hs
        try replace hn2:=hn2.mono hs
        try replace kg:=kg.mono hs
        try replace jl:=jl.mono hs
        try replace fL:=fL.mono hs
        try replace nK:=nK.mono hs
        try replace pI:=pI.mono hs
        try replace qU:=qU.mono hs
        try replace hmr:=hmr.mono hs
        replace aX:=dH aX hm;clear hs hm;refine S.d_ (A:=cH (ef cD) 102 (.slice ra (oD (bw dr st.1[i])).length rc) (oD (bw dr st.1[i]))) ai fun g hs hm ⟨_,x',s'⟩=>?_;have nJ:=(fun s x=>(cH.arr x).mono s) s' x';clear x' s';replace hg:=Fr.aH hg hs;replace hR:=bp hR hm
        try replace ha:=ha.mono hs
        try replace hb:=hb.mono hs
        try replace hc:=hc.mono hs
        try replace hH:=hH.mono hs
        try replace hK:=hK.mono hs
        try replace hT:=hT.mono hs
        try replace eM:=eM.mono hs
        try replace e_:=e_.mono hs
        try replace hk:=hk.mono hs
        try replace eo:=eo.mono hs
        try replace gb:=gb.mono hs
        try replace gA:=gA.mono hs
        try replace hG:=hG.mono hs
        try replace gm:=gm.mono hs
        try replace jk:=jk.mono hs
        try replace hn2:=hn2.mono hs
        try replace kg:=kg.mono hs
        try replace jl:=jl.mono hs
        try replace fL:=fL.mono hs
        try replace nK:=nK.mono hs
        try replace pI:=pI.mono hs
        try replace qU:=qU.mono hs
        try replace hmr:=hmr.mono hs
        try replace hasks:=hasks.mono hs
        replace aX:=dH aX hm;clear hs hm;clear ih;refine S.region rfl<|O.q 2 rfl<|O.aM (.p rfl) (.nW (T:=ag.str) Fb underlying53 gY aC rfl rfl ai (by first|assumption|exact aj.mono hg zE|exact aj.left zE|exact aj.left (aj.mono hg zE)) bJ bJ) ?_;rintro _ _ ⟨rA,rG,rfl,rfl⟩;refine O.q 1 rfl<|O.nil<|S.seq<|S.seq<|S.region rfl<|O.op (.p rfl) (.bz isAgg27 aa rfl gm) ?_;refine O.op (.p rfl) (.bz isAgg27 aa rfl fL) ?_;refine O.aB (.p rfl) rfl aa rfl rfl ((KR jl hmr)) ?_;rintro _ _ ⟨rfl,rfl⟩
        try simp only [an,aq,au]
        refine O.aN 124 rfl (by exact decide_eq_false heq) ?_;refine O.op (.p rfl) (.not rfl)<|O.nil<|S.bx rfl<|S.seq<|S.bB (L:=[0,2,1,3,4,5]) bA aa<|.quiet (.p rfl) rfl (fun _=>.bz isAgg27 aa rfl gm) ?_;refine .quiet (.p rfl) rfl (fun _=>.bz isAgg27 aa rfl fL) ?_;refine af.aB (.p rfl) aa rfl aa rfl rfl ((As jl hx0 qW eo.hH eo.hK)) ?_;rintro _ _ ⟨a127,MI,rfl,rfl⟩
        try simp only [an,aq,au]
        refine af.aB (.p rfl) aa rfl aa rfl rfl ((As hmr hy0 I5 eo.hH eo.hK)) ?_;rintro _ _ ⟨L2,MJ,rfl,rfl⟩
        try simp only [an,aq,au]
        refine af.dw (.p rfl) aa rfl aa rfl rfl (bs:=[av ag.u8 5 (.slice a127 (fP (bw dr st.1[i])).length MI) (fP (bw dr st.1[i])),av ag.u8 5 (.slice L2 (fP (bw dg st.1[i])).length MJ) (fP (bw dg st.1[i]))]) bf (fun m hm hd=>wu (hm.arr.right hd) (hm.tail.arr.right hd)) ?_;rintro _ _ ⟨rfl,rfl⟩
        try simp only [an,aq,au]
        refine af.sT 130 rfl (by exact decide_eq_true hsum) ?_;refine af.q 1 rfl<|aI.nil ?_;exact S.rt results10 rfl hR ⟨rfl,rfl⟩
      ·
       refine S.region rfl<|O.q 2 rfl<|O.op (.p rfl) (.bz isAgg27 aa rfl gm) ?_;refine O.bM (.p rfl) rfl aa rfl rfl ai (VP eo aC jl D0 C_ hx0 qW ah hfit) ?_;rintro _ _ ⟨rfl,rfl⟩
       try simp only [an,aq,au]
       refine O.q 7 rfl<|O.nil<|S.seq<|S.seq<|S.region rfl<|O.q 1 rfl<|O.op (.p rfl) (.neq rfl rfl)<|O.sT 108 rfl aK ?_;refine O.nil<|S.bx rfl<|S.seq<|S.seq<|S.region rfl<|O.q 1 rfl<|O.op (.p rfl) (.neq rfl rfl)<|O.aN 110 rfl aK ?_;refine O.q 2 rfl<|O.op (.g rfl rfl) (.len rfl underlying22 rfl)<|O.q 1 rfl<|O.op (.g rfl rfl) (.len rfl underlying53 rfl)<|O.op (.g rfl rfl) (.add rfl rfl (IntWalk.i64_in _ ah))<|O.op (.g rfl rfl) (.neq rfl rfl)<|O.aN 117 rfl aK ?_;refine O.q 1 rfl<|O.nil<|S.aQ rfl<|S.skip<|S.exit rfl<|S.region rfl<|O.q 1 rfl<|O.op (.p rfl) (.add rfl rfl (IntWalk.i64_in _ ah))<|O.q 1 rfl<|O.nil ?_;exact S.ic aX (S.pw (ih (i+1) (st) (u) (by exact ⟨by omega,hlo.skip hi⟩) ah))
     ·clear ih
      refine S.seq<|S.seq<|S.region rfl<|O.q 2 rfl<|O.op (.p rfl) (.len rfl underlying53 rfl)<|O.op (.p rfl) (.lss rfl rfl)<|O.sT 76 rfl (by exact decide_eq_true ah) ?_;refine O.q 2 rfl<|O.op (.g rfl rfl) (.lss rfl rfl)<|O.aN 79 rfl (by exact decide_eq_false ah) ?_;refine O.q 1 rfl<|O.nil<|S.aQ rfl<|S.exit rfl<|S.seq<|S.region rfl<|O.q 1 rfl<|O.nil ?_;exact S.rt results10 rfl hR ⟨rfl,rfl⟩
    ·clear ih
     refine S.seq<|S.seq<|S.region rfl<|O.q 2 rfl<|O.op (.p rfl) (.len rfl underlying53 rfl)<|O.op (.p rfl) (.lss rfl rfl)<|O.aN 76 rfl (by exact decide_eq_false ah) ?_;refine O.q 4 rfl<|O.nil<|S.aQ rfl<|S.exit rfl<|S.seq<|S.region rfl<|O.q 1 rfl<|O.nil ?_;exact S.rt results10 rfl hR ⟨rfl,rfl⟩
end Go.Proofs.YtojafegjlahajaaGreatDoor
