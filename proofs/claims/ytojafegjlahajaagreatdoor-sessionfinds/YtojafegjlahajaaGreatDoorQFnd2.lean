/- Texts of this proof. -/
import Derived.Test.YtojafegjlahajaaGreatDoorQLaw24l
import Derived.Test.YtojafegjlahajaaGreatDoorQSpFinds
open Go Go.Sp Go.Proofs.Tryz
set_option maxRecDepth 100000
set_option maxHeartbeats 1000000
attribute [local irreducible] obj Own av
namespace Go.Proofs.YtojafegjlahajaaGreatDoor
attribute [local irreducible] bN bw
def yH (A L:List aD) (key:List UInt8):Prop:=∃ n,n≤510∧bw A ((bq key).take n)=bw L ((bq key).take n)
noncomputable instance (A L:List aD) (key:List UInt8):Decidable (yH A L key):=Classical.propDecidable _
theorem Yi (key:List UInt8) {n:Nat} (h:n≤510):gJ ((bq key).take n):=⟨by rw [List.length_take];omega,fun c hc=>L6 key c (List.mem_of_mem_take hc)⟩
theorem LJ {L:List aD} {p:List UInt8} (h:gJ p):jB L p=bw L p:=Bj h
theorem T0 {p:List UInt8} (h:gJ p):uh p=0:=by unfold uh;rw [if_pos h]
theorem Ko {L:List aD} (hB:L.length≤20∧∀ y∈L,y.2.1.length≤60) (p:List UInt8):((bN L p).2.2.2.1.map (·.2.1)).flatten.length≤1200:=by
 rcases Bl L p with q|q
 ·rw [q];exact Nat.zero_le _
 ·rw [q]
  have:=(v8 p L).length_le;exact Aq (N:=20) (M:=60) _ (fun y hy=>hB.2 y (List.mem_filter.1 hy).1) ah
theorem Fs {L:List aD} (hB:L.length≤20∧∀ y∈L,y.2.1.length≤60):∀ D:List (List UInt8),(eY L D).length≤D.length*1200
 |[]=>Nat.zero_le _
 |p::D=>by
  have h1:=Fs hB D;have h2:=Ko hB p;have e:eY L (p::D)=((bN L p).2.2.2.1.map (·.2.1)).flatten++eY L D:=rfl;rw [e,List.length_append,List.length_cons,Nat.succ_mul];omega
theorem TB {m:Fr} {e:TypeId} {v:Value} {ak:List (List Value)} {xs:List aP} (h:Sat [av (ag.cells 7) e v ak,bX (dr b8).own ak xs] m):cD (dr b8) e v xs m:=⟨ak,h⟩
theorem XY {r da db:Fr} {ba bb s:Nat} {b7 a_:List aD} {key:List UInt8} (dL:fR r da s b7) (dM:fR r db s a_) (hk:key.length≤10000000000) :
  ay prog 62 #[.pointer (some ⟨ba,0,none⟩),.pointer (some ⟨bb,0,none⟩),.string (str key)] r [aY aF da ba s b7,aY aF db bb s a_] (aL fun v U=>v=.bool (decide (yH b7 a_ key))∧U=[aY aF da ba s b7,aY aF db bb s a_]):=by
 have Ai:=kO key;have aaf:(str (bq key)).size=510:=by rw [sJ,Ai]
 refine ay.of (n:=28) _ rfl func62 rfl rfl rfl fun g hg R hR=>?_;have dL:=dL.mono hg;have dM:=dM.mono hg;refine S.seq<|S.region rfl<|O.q 1 rfl<|O.nil<|S.seq<|S.region rfl<|O.q 1 rfl<|O.aC (.p rfl) rfl aa rfl rfl ((nU dL.hH dL.hK hk)) ?_;rintro _ _ ⟨rfl,rfl⟩
 try simp only [an,aq,au]
 refine O.q 1 rfl<|O.nil<|S.seq<|S.seq<|S.region rfl<|O.q 1 rfl<|O.nil<|S.block<|S.eM (ι:=Nat) (fun n=>n≤511∧∀ m,m<n→bw b7 ((bq key).take m)≠bw a_ ((bq key).take m)) (fun n=>[(8,.int .i64 (n:Int))]) [(0,_),(1,_),(7,_)] (fun n=>[aY aF da ba s b7,aY aF db bb s a_]) (fun n=>511 - n) (0) (by exact ⟨by omega,fun m h=>by omega⟩) (.cons rfl (.nil)) (.cons rfl (.cons rfl (.cons rfl (.nil)))) rfl fun n hx ih=>?_;have bh:=cH (g:=g);obtain ⟨hx1,hx2⟩:=hx
 by_cases hn:n≤510
 ·have tU:=Yi key hn
  have e1:=LJ (L:=b7) tU;have e2:=LJ (L:=a_) tU;have nN:=tU.1
  by_cases q:bw b7 ((bq key).take n)=bw a_ ((bq key).take n)
  ·clear ih
   have hy:yH b7 a_ key:=⟨n,hn,q⟩;refine S.seq<|S.seq<|S.region rfl<|O.q 2 rfl<|O.op (.p rfl) (.c5 rfl underlying9 rfl)<|O.op (.p rfl) (.leq rfl rfl)<|O.sT 14 rfl (by exact decide_eq_true ah) ?_;refine O.nil<|S.bx rfl<|S.skip<|S.seq<|S.block<|S.seq<|S.bC (L:=[0,1,2,3,5,6,7,8,4,9,10]) bz aa<|af.q 3 rfl<|.quiet (.p rfl) rfl (fun _=>aG.uC (b:=n) underlying9 rfl rfl (show _=(((n):Nat):Int) by omega) bD) ?_;refine af.q 3 rfl<|.quiet (.p rfl) rfl (fun _=>aG.uC (b:=n) underlying9 rfl rfl (show _=(((n):Nat):Int) by omega) bD) ?_;refine af.bM (.p rfl) aa rfl aa rfl rfl ai (ql (b:=ba) (p:=(bq key).take n) dL ah) ?_;rintro _ _ ⟨a21,s6,rfl,rfl⟩
   try simp only [an,aq,au]
   rw [e1];refine af.bM (.p rfl) aa rfl aa rfl rfl ai (ql (b:=bb) (p:=(bq key).take n) dM ah) ?_;rintro _ _ ⟨a26,gh,rfl,rfl⟩
   try simp only [an,aq,au]
   rw [e2];refine af.c4 (.p rfl) aa rfl aa rfl rfl (bs:=[av ag.u8 5 (.slice a21 (bw b7 ((bq key).take n)).length s6) (bw b7 ((bq key).take n)),av ag.u8 5 (.slice a26 (bw a_ ((bq key).take n)).length gh) (bw a_ ((bq key).take n))]) aW (fun m hm hd=>yV (hm.arr.right hd) (hm.tail.arr.right hd)) ?_;rintro _ _ ⟨rfl,rfl⟩
   try simp only [an,aq,au]
   refine af.sT 27 rfl (by exact decide_eq_true q) ?_;refine aJ.nil<|S.bx rfl<|S.seq<|S.region rfl<|O.q 1 rfl<|O.nil ?_;exact S.rt results62 rfl hR ⟨congrArg Value.bool (decide_eq_true hy).symm,rfl⟩
  ·have hall:∀ m,m<n+1→bw b7 ((bq key).take m)≠bw a_ ((bq key).take m):=fun m hm=>by
    by_cases u:m<n
    ·exact hx2 m u
    ·have:m=n:=by omega
     subst this;exact q
   refine S.seq<|S.seq<|S.region rfl<|O.q 2 rfl<|O.op (.p rfl) (.c5 rfl underlying9 rfl)<|O.op (.p rfl) (.leq rfl rfl)<|O.sT 14 rfl (by exact decide_eq_true ah) ?_;refine O.nil<|S.bx rfl<|S.skip<|S.seq<|S.block<|S.seq<|S.bC (L:=[0,1,2,3,5,6,7,8,4,9,10]) bz aa<|af.q 3 rfl<|.quiet (.p rfl) rfl (fun _=>aG.uC (b:=n) underlying9 rfl rfl (show _=(((n):Nat):Int) by omega) bD) ?_;refine af.q 3 rfl<|.quiet (.p rfl) rfl (fun _=>aG.uC (b:=n) underlying9 rfl rfl (show _=(((n):Nat):Int) by omega) bD) ?_;refine af.bM (.p rfl) aa rfl aa rfl rfl ai (ql (b:=ba) (p:=(bq key).take n) dL ah) ?_;rintro _ _ ⟨a21,s6,rfl,rfl⟩
   try simp only [an,aq,au]
   rw [e1];refine af.bM (.p rfl) aa rfl aa rfl rfl ai (ql (b:=bb) (p:=(bq key).take n) dM ah) ?_;rintro _ _ ⟨a26,gh,rfl,rfl⟩
   try simp only [an,aq,au]
   rw [e2];refine af.c4 (.p rfl) aa rfl aa rfl rfl (bs:=[av ag.u8 5 (.slice a21 (bw b7 ((bq key).take n)).length s6) (bw b7 ((bq key).take n)),av ag.u8 5 (.slice a26 (bw a_ ((bq key).take n)).length gh) (bw a_ ((bq key).take n))]) aW (fun m hm hd=>yV (hm.arr.right hd) (hm.tail.arr.right hd)) ?_;rintro _ _ ⟨rfl,rfl⟩
   try simp only [an,aq,au]
   refine af.aM 27 rfl (by exact decide_eq_false q) ?_;refine aJ.nil<|S.aQ rfl<|S.skip<|S.inBlock<|S.region rfl<|O.q 1 rfl<|O.op (.p rfl) (.add rfl rfl (IntWalk.i64_in _ ah))<|O.q 1 rfl<|O.nil ?_;exact S.pw (ih (n+1) (by exact ⟨by omega,hall⟩) ah)
 ·clear ih
  have hno:¬ yH b7 a_ key:=fun ⟨m,h1,h2⟩=>hx2 m ah h2;refine S.seq<|S.seq<|S.region rfl<|O.q 2 rfl<|O.op (.p rfl) (.c5 rfl underlying9 rfl)<|O.op (.p rfl) (.leq rfl rfl)<|O.aM 14 rfl (by exact decide_eq_false ah) ?_;refine O.nil<|S.aQ rfl<|S.exit rfl<|S.seq<|S.region rfl<|O.q 1 rfl<|O.nil ?_;exact S.rt results62 rfl hR ⟨congrArg Value.bool (decide_eq_false hno).symm,rfl⟩
set_option maxHeartbeats 1600000 in
theorem K8 {r d db:Fr} {ba bb s:Nat} {b7 a_:List aD} {yI:Value} {os:List Int} (dL:fR r d s b7) (dM:fR r db s a_) (hs4:s<4) (ho:aj ag.i64 r yI os) (hB:a_.length≤20∧∀ y∈a_,y.2.1.length≤60) :
  ay prog 61 #[.pointer (some ⟨ba,0,none⟩),.pointer (some ⟨bb,0,none⟩),yI] r [dc aF d Fr.emp ba s b7,aY aF db bb s a_] (aL fun v U=>∃ D n aZ a c,v=.tuple #[.pointer (some ⟨aZ,0,none⟩),.slice a (eY a_ D).length c,.bool true]∧ko b7 a_ D [] [] n ∧
   U=[dc aF d Fr.emp ba s b7,aY aF db bb s a_,cc aF 89 d aZ s b7 3 true [] (bw a_) n,cD (dr b8) 102 (.slice a (eY a_ D).length c) (eY a_ D)]):=by
 obtain ⟨a3,c3,rfl⟩:=ho.shape;have eV:=ho.bound;have p6:=dM.ok;have zN:(bw a_ []).length=64:=qn p6 [];have xP:er (s:Int) (bw a_ [])=lK (4::Sp.byteOf (s:Int)::bw a_ []):=by unfold er;rw [if_pos ⟨by omega,by omega,zN⟩]
 have jx:(er (s:Int) (bw a_ [])).length=64:=by rw [xP,qi]
 have Rh:=Xn a_;have Re:oF ((3,(s:Int),1,er (s:Int) (bw a_ []),List.replicate 64 0,()):jX)=true:=V_ aB hs4 jx;have hstart:=ko.start b7 a_;refine ay.of (n:=102) _ rfl func61 rfl rfl rfl fun g hg R hR=>?_;have dL:=dL.mono hg;have dM:=dM.mono hg;have ho:=ho.mono hg;refine S.seq<|S.region rfl<|O.q 3 rfl<|O.nil<|S.seq<|S.region rfl<|O.q 1 rfl<|O.bM (.p rfl) rfl aa rfl rfl ai (FV (peer:=3) (uj:=1) dL hs4 aB aB) ?_;rintro _ _ ⟨aZ,rfl,rfl⟩
 try simp only [an,aq,au]
 refine O.q 1 rfl<|O.nil<|S.seq<|S.ct (A:=cc aF 89 d aZ s b7 3 false [] (bw a_) 0) (bs:=[fD d aZ s b7 3 false]) aW (fun m h=>UW _ h) ?_;refine S.region rfl<|O.q 2 rfl<|O.c4 (.p rfl) rfl aa rfl rfl (bs:=[aY aF db bb s a_]) aW (fun m hm hd=>yB (aY.gY dM.hd hd hm)) ?_;rintro _ _ ⟨rfl,rfl⟩
 try simp only [an,aq,au]
 refine O.q 1 rfl<|O.bM (.p rfl) rfl aa rfl rfl ai (F8 (b:=bb) dM hs4) ?_;rintro _ _ ⟨a28,s8,rfl,rfl⟩
 try simp only [an,aq,au]
 refine O.fo ai fun g hs hm j6=>?_;replace hg:=Fr.aI hg hs;replace hR:=bu hR hm
 try replace dL:=dL.mono hs
 try replace dM:=dM.mono hs
 try replace ho:=ho.mono hs
 clear hs hm;refine O.aC (.p rfl) rfl aa rfl rfl ((Fo)) ?_;rintro _ _ ⟨a29,y_,rfl,rfl⟩
 try simp only [an,aq,au]
 refine O.fo ai fun g hs hm jK=>?_;replace hg:=Fr.aI hg hs;replace hR:=bu hR hm
 try replace dL:=dL.mono hs
 try replace dM:=dM.mono hs
 try replace ho:=ho.mono hs
 try replace j6:=j6.mono hs
 clear hs hm;refine O.q 1 rfl<|O.bM (.p rfl) rfl aa rfl rfl ai (ql (b:=bb) (p:=[]) dM bL) ?_;rintro _ _ ⟨a31,iq,rfl,rfl⟩
 try simp only [an,aq,au]
 rw [Rh];refine O.fo ai fun g hs hm lZ=>?_;replace hg:=Fr.aI hg hs;replace hR:=bu hR hm
 try replace dL:=dL.mono hs
 try replace dM:=dM.mono hs
 try replace ho:=ho.mono hs
 try replace j6:=j6.mono hs
 try replace jK:=jK.mono hs
 clear hs hm;refine O.bM (.p rfl) rfl aa rfl rfl ai (Wy (x:=(3,(s:Int),1,er (s:Int) (bw a_ []),List.replicate 64 0,())) dL hs4 (jh.mk ⟨by decide,by decide⟩ ⟨by omega,by omega⟩ ⟨by decide,by decide⟩ j6 jK) Re rfl lZ zN rfl rfl bL ah) ?_;rintro _ _ ⟨a32,lR,rfl,rfl⟩
 try simp only [an,aq,au]
 refine O.q 5 rfl<|O.nil<|S.seq<|S.seq<|S.region rfl<|O.q 1 rfl<|O.op (.p rfl) (.neq rfl rfl)<|O.aM 36 rfl aK ?_;refine O.nil<|S.aQ rfl<|S.skip<|S.seq<|S.region rfl<|O.q 1 rfl<|O.nil<|S.seq<|S.seq<|S.q6 (dr b8) 102 ?_;obtain ⟨o0,n0,Qr,D1,hn0⟩:∃ o0:List (List UInt8),∃ n0:Nat,ko b7 a_ [] o0 o0 n0∧o0=c7 b7 (bw a_) [[]]∧n0=0+(c7 b7 (bw a_) [[]]).length:=⟨_,_,by rw [Nat.zero_add];exact hstart,rfl,rfl⟩;rw [← D1] at hn0 ⊢;rw [← hn0];refine S.pk (ζ:=[dc aF d Fr.emp ba s b7,aY aF db bb s a_,cc aF 89 d aZ s b7 3 true o0 (bw a_) n0,av ag.str 9 (.slice (a32,lR).1 o0.length (a32,lR).2) o0,cD (dr b8) 102 (.slice ((none:Option Addr),0).1 (eY a_ []).length ((none:Option Addr),0).2) (eY a_ [])]) jf ?_
 refine S.region rfl<|O.q 1 rfl<|O.nil<|S.block<|S.Ay (ι:=Nat) (dJ:=List (List UInt8) × List (List UInt8) × List (List UInt8) × Nat) (jC:=Option Addr × Nat) (dF:=Option Addr × Nat) (fun i st u y=>st.1.length=i∧ko b7 a_ st.1 st.2.1 st.2.2.1 st.2.2.2) (fun i st u y=>[(13,.int .i64 (i:Int)),(10,.slice u.1 st.2.1.length u.2),(12,.slice y.1 (eY a_ st.1).length y.2)]) [(1,_),(2,_),(9,_)] (fun i st u y=>[dc aF d Fr.emp ba s b7,aY aF db bb s a_,cc aF 89 d aZ s b7 3 true st.2.2.1 (bw a_) st.2.2.2,av ag.str 9 (.slice u.1 st.2.1.length u.2) st.2.1,cD (dr b8) 102 (.slice y.1 (eY a_ st.1).length y.2) (eY a_ st.1)]) (fun i st u y=>30000 - i) (0) (([],o0,o0,n0)) ((a32,lR)) ((none,0)) (by exact ⟨rfl,Qr⟩) (.cons rfl (.cons rfl (.cons rfl (.nil)))) (.cons rfl (.cons rfl (.cons rfl (.nil)))) rfl fun i st u y hx ih=>?_;have bh:=cH (g:=g);obtain ⟨hx1,hfo⟩:=hx;have hlen:=hfo.len;have IP:=hfo.s5;have j7:i≤20401:=by omega
 have rZ:st.2.1.length≤20401:=by omega
 by_cases hz:0<st.2.1.length
 ·
  refine S.seq<|S.seq<|S.region rfl<|O.q 1 rfl<|O.op (.p rfl) (.len rfl underlying53 rfl)<|O.op (.p rfl) (.gtr rfl rfl)<|O.sT 40 rfl (by exact decide_eq_true ah) ?_;refine O.nil<|S.bx rfl<|S.skip<|S.seq<|S.block<|S.seq<|S.seq<|S.region rfl<|O.q 1 rfl<|O.op (.p rfl) (.gtr rfl rfl)<|O.aM 44 rfl (by exact decide_eq_false ah) ?_;refine O.nil<|S.aQ rfl<|S.skip<|S.seq<|S.region rfl<|O.q 1 rfl<|O.nil<|S.seq<|S.seq<|S.vb (fun (k:Nat)=>k<st.2.1.length) (fun (k:Nat)=>[(14,.int .i64 (k:Int))]) [(1,_),(2,_),(9,_),(10,_),(12,_),(13,_)] (fun (k:Nat)=>[dc aF d Fr.emp ba s b7,aY aF db bb s a_,cc aF 89 d aZ s b7 3 true st.2.2.1 (bw a_) st.2.2.2,av ag.str 9 (.slice u.1 st.2.1.length u.2) st.2.1,cD (dr b8) 102 (.slice y.1 (eY a_ st.1).length y.2) (eY a_ st.1)]) (.cons rfl (.cons rfl (.cons rfl (.cons rfl (.cons rfl (.cons rfl (.nil))))))) (fun key=>?_) (fun k hx=>?_)
  ·have hm2:=cH (g:=g)
   by_cases hi:i<os.length
   ·obtain ⟨k,hpk,P9⟩:=KG os[i] hz
    refine S.region rfl<|O.q 2 rfl<|O.op (.p rfl) (.len rfl underlying104 rfl)<|O.op (.p rfl) (.lss rfl rfl)<|O.sT 49 rfl (by exact decide_eq_true ah) ?_;refine O.nil<|S.bx rfl<|S.region rfl<|O.q 2 rfl<|O.bR (.p rfl) underlying104 sH rfl rfl (show _=(((i):Nat):Int) by omega) (ho) (h:=fun aa7 Y4 QJ Q9=>?_);obtain ⟨rfl,_⟩:=Q9;refine O.op (.p rfl) (.loadAt cz rfl QJ rfl) ?_;refine O.q 1 rfl<|O.op (.p rfl) (.len rfl underlying53 rfl)<|O.aC (.p rfl) rfl aa rfl rfl ((GF _ _ (by constructor<;>omega))) ?_;rintro _ _ ⟨rfl,rfl⟩
    try simp only [an,aq,au]
    refine O.slot 56 (v' :=.int .i64 (k:Int)) rfl (by rw [hpk]) ?_;refine O.q 1 rfl<|O.nil<|S.pk ?_ (S.weaken ?_ (key (k) (by exact P9)))
    ·repeat (first|exact aS|exact aU|(apply aT;focus (repeat (first|exact aR|apply zt)))|apply aV)
    repeat (first|exact Sub.nil|refine Sub.cons rfl ?_)
   ·
    refine S.region rfl<|O.q 2 rfl<|O.op (.p rfl) (.len rfl underlying104 rfl)<|O.op (.p rfl) (.lss rfl rfl)<|O.aM 49 rfl (by exact decide_eq_false ah) ?_;refine O.nil<|S.aQ rfl<|S.skip<|S.pk ?_ (S.weaken ?_ (key (0) (by exact hz)))
    ·repeat (first|exact aS|exact aU|(apply aT;focus (repeat (first|exact aR|apply zt)))|apply aV)
    repeat (first|exact Sub.nil|refine Sub.cons rfl ?_)
  ·have hk:k<st.2.1.length:=hx
   have hmo:=List.getElem_mem hk;have Eo:=hfo.ok _ (List.mem_append.2 (.inr hmo));have Ac:=Eo.1;have hkn:=Gb a_ Ac;have hnext:=hfo.step hk hkn.1;have QR:st.2.1[k]∈st.2.2.1:=hfo.perm.mem_iff.2 hmo;have OV:(bw a_ st.2.1[k]).length=64:=qn p6 _;have I9:=XB (p:=st.2.1[k]) (L:=a_) ah (fun y hy=>by have:=hB.2 y hy;omega);have hfit:=Xy p6 Ac;have OU:(bN a_ st.2.1[k]).1=3→bw a_ (st.2.1[k]++[48])=(bN a_ st.2.1[k]).2.1∧bw a_ (st.2.1[k]++[49])=(bN a_ st.2.1[k]).2.2.1∧st.2.1[k]++[48] ∉ st.2.2.1∧st.2.1[k]++[49] ∉ st.2.2.1:=fun q =>
    ⟨(LS Ac q).1,(LS Ac q).2,fun w=>hfo.fresh hmo 48 (List.mem_append.2 (.inr (hfo.perm.mem_iff.1 w))),fun w=>hfo.fresh hmo 49 (List.mem_append.2 (.inr (hfo.perm.mem_iff.1 w)))⟩
   have dg:kv b7 (bw a_) st.2.1[k] (bN a_ st.2.1[k])=(jZ b7 a_ st.2.1[k]):=rfl;have hout:=Uz a_ st.1 st.2.1[k];have hrl:=VU I9;have Z9:=Fs hB st.1;have aaa:(pN (bN a_ st.2.1[k])).length≤1200:=Ko hB _;have he:=List.eraseIdx_eq_take_drop_succ st.2.1 k;have hel:=List.length_eraseIdx_of_lt hk;have OS:=G0 b7 (bw a_) st.2.1[k] (bN a_ st.2.1[k]);rw [dg] at OS;refine S.seq<|S.region rfl<|O.q 2 rfl<|O.aN (.p rfl) (.ox (T:=ag.str) underlying53 gb rfl rfl (show _=(((k):Nat):Int) by omega) ai oL) ?_;rintro _ _ ⟨aa',rfl,QN,rfl⟩;refine O.op (.p rfl) (.J1 bQ rfl QN rfl ai oL ((by rintro _ ⟨rfl,_⟩;rfl))) ?_;refine O.q 1 rfl<|O.nil<|S.seq<|S.ep (A:=av ag.str 9 (.slice u.1 st.2.1.length u.2) st.2.1) ai fun g hs hm ⟨_,x',s'⟩=>?_;have ou:=(fun s x=>aj.mono s (av.arr x)) s' x';clear x' s';replace hg:=Fr.aI hg hs;replace hR:=bu hR hm
   try replace dL:=dL.mono hs
   try replace dM:=dM.mono hs
   try replace ho:=ho.mono hs
   try replace j6:=j6.mono hs
   try replace jK:=jK.mono hs
   try replace lZ:=lZ.mono hs
   replace bh:=dQ bh hm;clear hs hm;refine S.bC (L:=[1,2,3,5,6,7,8,0,4,9,10]) bz aa ?_;refine af.q 2 rfl<|af.sliceTo (b:=k) (.p rfl) underlying53 gb rfl rfl zE bD bD (fun u64 nI=>?_);obtain ⟨a64,YO,rfl⟩:=nI.shape;refine af.q 2 rfl<|.quiet (.p rfl) rfl (fun _=>.add rfl rfl (IntWalk.i64_in _ ah))<|af.sliceFrom (a:=k+1) (.p rfl) underlying53 gb rfl rfl zE bD bD (fun abx nJ=>?_);obtain ⟨B0,Ci,rfl⟩:=nJ.shape;refine af.cA (T:=ag.str) (ys:=[]) (.p rfl) aa underlying53 gv aB rfl rfl trivial aB (fun YE YN=>?_);refine af.mF (.p rfl) aa (T:=ag.str) AU underlying53 gv aB rfl rfl ai (by first|assumption|exact aj.mono hg zE|exact aj.left zE|exact aj.left (aj.mono hg zE)) bD bD (fun YF YP=>?_);refine af.mF (.p rfl) aa (T:=ag.str) AU underlying53 gv aB rfl rfl ai (by first|assumption|exact aj.mono hg zE|exact aj.left zE|exact aj.left (aj.mono hg zE)) bD bD (fun a70 zb=>?_);refine af.q 1 rfl<|aJ.nil<|S.seq<|S.jd (T:=ag.str) (e:=9) (v' :=.slice a70 (st.2.1.eraseIdx k).length zb) (xs' :=(st.2.1.eraseIdx k)) ai (by rw [he];simp) (by rw [he];simp) ?_;refine S.slot 10 (v' :=.slice a70 (st.2.1.eraseIdx k).length zb) rfl (by rw [he];simp) ?_;refine S.region rfl<|O.q 2 rfl<|O.bM (.p rfl) rfl aa rfl rfl ai (Xr (b:=bb) (p:=st.2.1[k]) dM ah) ?_
   rintro _ _ ⟨q1,d1,q2,d2,cM,d3,rfl,rfl⟩
   try simp only [an,aq,au]
   rw [T2 Eo,T0 Eo];refine O.q 3 rfl<|O.aN (.p rfl) (.alloc (cs:=[.int .u8 0,.slice none 0 0,.slice none 0 0,.slice none 0 0]) zeroValue27 rfl) ?_;rintro _ _ ⟨MM,rfl,rfl⟩;refine O.bB rfl (.c9 aa rfl rfl rfl rfl ai aX) ?_;refine O.q 1 rfl<|O.nil<|S.seq<|S.dx (b:=MM) (cs' :=[bK (bN a_ st.2.1[k]).1,.slice q1 (bN a_ st.2.1[k]).2.1.length d1,.slice q2 (bN a_ st.2.1[k]).2.2.1.length d2,.slice cM (bN a_ st.2.1[k]).2.2.2.1.length d3]) ai rfl ?_;refine S.de ai fun g hs hm fH=>?_;replace hg:=Fr.aI hg hs;replace hR:=bu hR hm
   try replace dL:=dL.mono hs
   try replace dM:=dM.mono hs
   try replace ho:=ho.mono hs
   try replace j6:=j6.mono hs
   try replace jK:=jK.mono hs
   try replace lZ:=lZ.mono hs
   try replace ou:=ou.mono hs
   try replace nI:=nI.mono hs
   try replace nJ:=nJ.mono hs
   replace bh:=dQ bh hm;clear hs hm;refine S.ep (A:=av ag.u8 5 (.slice q1 (bN a_ st.2.1[k]).2.1.length d1) (bN a_ st.2.1[k]).2.1) ai fun g hs hm ⟨_,x',s'⟩=>?_;have p8:=(fun s x=>aj.mono s (av.arr x)) s' x';clear x' s';replace hg:=Fr.aI hg hs;replace hR:=bu hR hm
   try replace dL:=dL.mono hs
   try replace dM:=dM.mono hs
   try replace ho:=ho.mono hs
   try replace j6:=j6.mono hs
   try replace jK:=jK.mono hs
   try replace lZ:=lZ.mono hs
   try replace ou:=ou.mono hs
   try replace nI:=nI.mono hs
   try replace nJ:=nJ.mono hs
   try replace fH:=fH.mono hs
   replace bh:=dQ bh hm;clear hs hm;refine S.ep (A:=av ag.u8 5 (.slice q2 (bN a_ st.2.1[k]).2.2.1.length d2) (bN a_ st.2.1[k]).2.2.1) ai fun g hs hm ⟨_,x',s'⟩=>?_;have hn2:=(fun s x=>aj.mono s (av.arr x)) s' x';clear x' s';replace hg:=Fr.aI hg hs;replace hR:=bu hR hm
   try replace dL:=dL.mono hs
   try replace dM:=dM.mono hs
   try replace ho:=ho.mono hs
   try replace j6:=j6.mono hs
   try replace jK:=jK.mono hs
   try replace lZ:=lZ.mono hs
   try replace ou:=ou.mono hs
   try replace nI:=nI.mono hs
   try replace nJ:=nJ.mono hs
   try replace fH:=fH.mono hs
   try replace p8:=p8.mono hs
   replace bh:=dQ bh hm;clear hs hm;refine S.ep (A:=cD (ek b8) 31 (.slice cM (bN a_ st.2.1[k]).2.2.2.1.length d3) (bN a_ st.2.1[k]).2.2.2.1) ai fun g hs hm ⟨_,x',s'⟩=>?_;have tM:=(fun s x=>(cD.arr x).mono s) s' x';clear x' s';replace hg:=Fr.aI hg hs;replace hR:=bu hR hm
   try replace dL:=dL.mono hs
   try replace dM:=dM.mono hs
   try replace ho:=ho.mono hs
   try replace j6:=j6.mono hs
   try replace jK:=jK.mono hs
   try replace lZ:=lZ.mono hs
   try replace ou:=ou.mono hs
   try replace nI:=nI.mono hs
   try replace nJ:=nJ.mono hs
   try replace fH:=fH.mono hs
   try replace p8:=p8.mono hs
   try replace hn2:=hn2.mono hs
   replace bh:=dQ bh hm;clear hs hm;have xy:jV.rel g.h [bK (bN a_ st.2.1[k]).1,.slice q1 (bN a_ st.2.1[k]).2.1.length d1,.slice q2 (bN a_ st.2.1[k]).2.2.1.length d2,.slice cM (bN a_ st.2.1[k]).2.2.2.1.length d3] (bN a_ st.2.1[k]):=jV.mk p8 hn2 tM;refine S.region rfl<|O.q 2 rfl<|O.op (.p rfl) (.bE isAgg27 aa rfl fH) ?_;refine O.bM (.p rfl) rfl aa rfl rfl ai (Wv (F:=bw a_) (F' :=bw a_) dL aB xy QR OV I9 ah hfit ah (fun _ _=>rfl) OU) ?_;rintro _ _ ⟨ra,rc,qf,sA,rfl,rfl⟩
   try simp only [an,aq,au]
   rw [dg];refine O.q 7 rfl<|O.nil<|S.seq<|S.seq<|S.region rfl<|O.q 1 rfl<|O.op (.p rfl) (.neq rfl rfl)<|O.aM 86 rfl aK ?_;refine O.q 2 rfl<|O.op (.g rfl rfl) (.neq rfl rfl)<|O.aM 89 rfl aK ?_;refine O.q 1 rfl<|O.nil<|S.aQ rfl<|S.skip<|S.seq<|S.ug (G:=dr b8) (v:=.slice ra (pN (bN a_ st.2.1[k])).length rc) (xs:=pN (bN a_ st.2.1[k])) (k' :=7) rfl ai fun mI qP=>?_;refine S.ep (A:=av (ag.cells 7) 102 (.slice ra (pN (bN a_ st.2.1[k])).length rc) mI) ai fun g hs hm ⟨_,x',s'⟩=>?_;have pz:=(fun s x=>aj.mono s (av.arr x)) s' x';clear x' s';replace hg:=Fr.aI hg hs;replace hR:=bu hR hm
   try replace dL:=dL.mono hs
   try replace dM:=dM.mono hs
   try replace ho:=ho.mono hs
   try replace j6:=j6.mono hs
   try replace jK:=jK.mono hs
   try replace lZ:=lZ.mono hs
   try replace ou:=ou.mono hs
   try replace nI:=nI.mono hs
   try replace nJ:=nJ.mono hs
   try replace fH:=fH.mono hs
   try replace p8:=p8.mono hs
   try replace hn2:=hn2.mono hs
   try replace tM:=tM.mono hs
   try replace xy:=xy.mono hs
   replace bh:=dQ bh hm;clear hs hm;refine S.ug (G:=dr b8) (v:=.slice y.1 (eY a_ st.1).length y.2) (xs:=eY a_ st.1) (k' :=7) rfl ai fun kS hc1=>?_;rw [← hc1];refine S.ep (A:=av ag.str 9 (.slice qf (jZ b7 a_ st.2.1[k]).length sA) (jZ b7 a_ st.2.1[k])) ai fun g hs hm ⟨_,x',s'⟩=>?_;have hasks:=(fun s x=>aj.mono s (av.arr x)) s' x';clear x' s';replace hg:=Fr.aI hg hs;replace hR:=bu hR hm
   try replace dL:=dL.mono hs
   try replace dM:=dM.mono hs
   try replace ho:=ho.mono hs
   try replace j6:=j6.mono hs
   try replace jK:=jK.mono hs
   try replace lZ:=lZ.mono hs
   try replace ou:=ou.mono hs
   try replace nI:=nI.mono hs
   try replace nJ:=nJ.mono hs
   try replace fH:=fH.mono hs
   try replace p8:=p8.mono hs
   try replace hn2:=hn2.mono hs
   try replace tM:=tM.mono hs
   try replace xy:=xy.mono hs
   try replace pz:=pz.mono hs
   replace bh:=dQ bh hm;clear hs hm;have rY:kS.length+mI.length=(eY a_ (st.1++[st.2.1[k]])).length:=by rw [← hout,List.length_append,hc1,qP];rfl
   refine S.region rfl<|O.q 2 rfl<|O.aN (.p rfl) (.mF (T:=(ag.cells 7)) (UZ 7) underlying22 wS aB rfl rfl ai (by first|assumption|exact aj.mono hg zE|exact aj.left zE|exact aj.left (aj.mono hg zE)) bD bD) ?_;rintro _ _ ⟨yX,zc,rfl,rfl⟩;refine O.q 1 rfl<|O.nil<|S.ct (A:=bX (dr b8).own (kS++mI) (eY a_ (st.1++[st.2.1[k]]))) (bs:=[bX (dr b8).own kS (eY a_ st.1),bX (dr b8).own mI (pN (bN a_ st.2.1[k]))]) aW (fun m h=>by rw [← hout];exact bX.app h) ?_;refine S.ct (A:=cD (dr b8) 102 (.slice yX (eY a_ (st.1++[st.2.1[k]])).length zc) (eY a_ (st.1++[st.2.1[k]]))) (bs:=[av (ag.cells 7) 102 (.slice yX (kS.length+mI.length) zc) (kS++mI),bX (dr b8).own (kS++mI) (eY a_ (st.1++[st.2.1[k]]))]) aW (fun m h=>by rw [← rY];exact TB h) ?_;refine S.slot 12 (v' :=.slice yX (eY a_ (st.1++[st.2.1[k]])).length zc) rfl (by rw [rY]) ?_;refine S.region rfl<|O.q 2 rfl<|O.aN (.p rfl) (.mF (T:=ag.str) AU underlying53 gv aB rfl rfl ai (by first|assumption|exact aj.mono hg zE|exact aj.left zE|exact aj.left (aj.mono hg zE)) bD bD) ?_;rintro _ _ ⟨B3,Cl,rfl,rfl⟩
   refine O.q 1 rfl<|O.nil<|S.inBlock<|S.jd (T:=ag.str) (e:=9) (v' :=.slice B3 ((st.2.1.eraseIdx k)++(jZ b7 a_ st.2.1[k])).length Cl) (xs' :=(st.2.1.eraseIdx k)++(jZ b7 a_ st.2.1[k])) ai (by rw [List.length_append]) rfl ?_;refine S.slot 10 (v' :=.slice B3 ((st.2.1.eraseIdx k)++(jZ b7 a_ st.2.1[k])).length Cl) rfl (by rw [List.length_append]) ?_;refine S.region rfl<|O.q 1 rfl<|O.op (.p rfl) (.add rfl rfl (IntWalk.i64_in _ ah))<|O.q 1 rfl<|O.nil ?_;exact S.iA bh (S.pw (ih (i+1) ((st.1++[st.2.1[k]],(st.2.1.eraseIdx k)++(jZ b7 a_ st.2.1[k]),st.2.2.1.erase st.2.1[k]++(jZ b7 a_ st.2.1[k]),st.2.2.2+(jZ b7 a_ st.2.1[k]).length)) ((B3,Cl)) ((yX,zc)) (by exact ⟨by simp;omega,hnext⟩) ah))
 ·clear ih
  have hO:st.2.1=[]:=List.length_eq_zero_iff.1 ah;have hW:st.2.2.1=[]:=by have:=hfo.perm;rw [hO] at this;exact this.eq_nil
  have lB:ko b7 a_ st.1 [] [] st.2.2.2:=by have:=hfo;rw [hO,hW] at this;exact this
  refine S.seq<|S.seq<|S.region rfl<|O.q 1 rfl<|O.op (.p rfl) (.len rfl underlying53 rfl)<|O.op (.p rfl) (.gtr rfl rfl)<|O.aM 40 rfl (by exact decide_eq_false ah) ?_;refine O.nil<|S.aQ rfl<|S.exit rfl<|S.seq<|S.region rfl<|O.q 3 rfl<|O.bM (.p rfl) rfl aa rfl rfl ai (Wr aB) ?_;rintro _ _ ⟨rfl,rfl⟩
  try simp only [an,aq,au]
  refine O.sT 101 rfl (by rw [hW];rfl) ?_;refine O.q 3 rfl<|O.nil<|S.ct (A:=cc aF 89 d aZ s b7 3 true [] (bw a_) st.2.2.2) (bs:=[cc aF 89 d aZ s b7 3 true st.2.2.1 (bw a_) st.2.2.2]) aW (fun m h=>by rw [hW] at h;exact cc.up h) ?_;refine S.K4 results61 rfl rfl rfl fun w hw=>Holds.end_ hR hw ?_;exact pk ⟨st.1,st.2.2.2,aZ,y.1,y.2,rfl,lB,rfl⟩
attribute [local irreducible] fN
theorem UA {s:Nat} {L:List aD} (h:gu s L) {D:List (List UInt8)} {y:aP} (hy:y∈eY L D):y∈kF L y.1:=by
 obtain ⟨l,hl,mO⟩:=List.mem_flatten.1 hy;obtain ⟨p,_,rfl⟩:=List.mem_map.1 hl;exact VZ h mO
theorem found {s:Nat} {A L:List aD} {D W:List (List UInt8)} {n:Nat} (h:ko A L D [] W n) {x:aD} (hx:x∈L) {y:aP} (hy:y∈x.2.1) (hn:y ∉ eY L D):yH A L x.1:=Classical.byContradiction fun q=>hn (h.Oq hx (fun n hn e=>q ⟨n,hn,e⟩) y hy)
theorem Ih {L:List aD} {D W:List (List UInt8)} {n:Nat} (h:ko L L D [] W n):D=[]∧n=0:=by
 have h1:=h.none rfl;rw [List.append_nil] at h1;have h2:=h.s5;rw [h1] at h2;exact ⟨h1,h2⟩
theorem Ms {d:Fr} {b s:Nat} {L:List aD} {m:Fr} (h:Sat [dc aF d Fr.emp b s L] m):aY aF d b s L m:=dc.toX h
set_option maxHeartbeats 1600000 in
theorem WL {r:Fr} {z:Int} {va je yI:Value} {l l2:List aD} {os:List Int} (hz:cK z) (ha:aj bP r va l) (hb:aj bP r je l2) (ho:aj ag.i64 r yI os) (hH:At r ⟨0,0,none⟩ (bW ev)) (hK:At r ⟨1,0,none⟩ (bW gq)) :
  ay prog 11 #[.int .i64 z,va,je,yI] r [] (aL fun v U=>v=.bool true∧U=[]):=by
 obtain ⟨a1,c1,rfl⟩:=ha.shape;obtain ⟨a2,c2,rfl⟩:=hb.shape;obtain ⟨a3,c3,rfl⟩:=ho.shape;obtain ⟨s,hs,hs4⟩:=KG z (n:=4) aB;have hs' :pick z 4=(s:Int):=hs;refine ay.of (n:=160) _ rfl func11 rfl rfl rfl fun g hg R hR=>?_;have ha:=ha.mono hg;have hb:=hb.mono hg;have ho:=ho.mono hg;have hH:=hH.mono hg;have hK:=hK.mono hg;refine S.seq<|S.region rfl<|O.q 1 rfl<|O.nil<|S.seq<|S.seq<|S.region rfl<|O.aC (.p rfl) rfl aa rfl rfl ((MJ hH hK)) ?_;rintro _ _ ⟨rfl,rfl⟩
 try simp only [an,aq,au]
 refine O.sT 22 rfl aK ?_;refine O.op (.p rfl) (.not rfl)<|O.nil<|S.aQ rfl<|S.skip<|S.seq<|S.seq<|S.region rfl<|O.q 1 rfl<|O.aC (.p rfl) rfl aa rfl rfl ((JW ha)) ?_;rintro _ _ ⟨aaT,Aa,rfl,rfl⟩
 try simp only [an,aq,au]
 refine O.op (.p rfl) ((by first|exact .mg rfl|exact .not rfl)) ?_;refine O.q 1 rfl ?_
 first|refine O.dK 27 rfl (fun zM=>?_) (fun zM=>?_)|refine O.dA 27 rfl (fun zM=>?_) (fun zM=>?_)
 ·refine O.q 9 rfl<|O.nil<|S.bx rfl<|S.seq<|S.region rfl<|O.q 1 rfl<|O.nil ?_
  exact S.rt results11 rfl hR ⟨rfl,rfl⟩
 ·refine O.q 1 rfl<|O.aC (.g rfl rfl) rfl aa rfl rfl ((JW hb)) ?_
  rintro _ _ ⟨vQ,Qs,rfl,rfl⟩
  try simp only [an,aq,au]
  refine O.op (.g rfl rfl) ((by first|exact .mg rfl|exact .not rfl)) ?_;refine O.q 2 rfl ?_
  first|refine O.dK 32 rfl (fun oh=>?_) (fun oh=>?_)|refine O.dA 32 rfl (fun oh=>?_) (fun oh=>?_)
  ·refine O.q 4 rfl<|O.nil<|S.bx rfl<|S.seq<|S.region rfl<|O.q 1 rfl<|O.nil ?_
   exact S.rt results11 rfl hR ⟨rfl,rfl⟩
  ·refine O.q 1 rfl<|O.op (.g rfl rfl) (.len rfl underlying104 rfl)<|O.op (.g rfl rfl) (.gtr rfl rfl)<|O.q 1 rfl<|O.nil ?_
   first|refine S.cm rfl (fun C'=>?_) (fun C'=>?_)|refine S.b_ rfl (fun C'=>?_) (fun C'=>?_)
   ·refine S.seq<|S.region rfl<|O.q 1 rfl<|O.nil ?_
    exact S.rt results11 rfl hR ⟨rfl,rfl⟩
   ·obtain ⟨rX,_,I6⟩:=Aa (by simpa using zM)
    obtain ⟨z_,_,Ja⟩:=Qs (by simpa using oh);have fI:∀ y∈l,y.2.1.length≤10000000:=fun y hy=>by have:=(I6 y hy).2.1;omega
    have cN:∀ y∈l2,y.2.1.length≤10000000:=fun y hy=>by have:=(Ja y hy).2.1;omega
    have hT:fR g.h Fr.emp s []:=⟨Fr.c6 _,gu.nil s,⟨by simp,fun _ h=>by cases h⟩,hH,hK⟩;have vo:=KN s l;have Iw:=KL s rX fun y hy=>(I6 y hy).2.1;have p6:=KN s l2;have tC:=KL s z_ fun y hy=>(Ja y hy).2.1;refine S.skip<|S.seq<|S.region rfl<|O.q 1 rfl<|O.aC (.p rfl) rfl aa rfl rfl ((GF _ _ (by constructor<;>decide))) ?_;rintro _ _ ⟨rfl,rfl⟩
    try simp only [an,aq,au]
    refine O.slot 38 (v' :=.int .i64 (s:Int)) rfl (by rw [hs']) ?_;refine O.q 1 rfl<|O.nil<|S.seq<|S.region rfl<|O.q 1 rfl<|O.aC (.p rfl) rfl aa rfl rfl ((Ke hs4)) ?_;rintro _ _ ⟨jG,rfl,rfl⟩
    try simp only [an,aq,au]
    refine O.q 1 rfl<|O.aC (.p rfl) rfl aa rfl rfl ((Ke hs4)) ?_;rintro _ _ ⟨lP,rfl,rfl⟩
    try simp only [an,aq,au]
    refine O.q 2 rfl<|O.nil<|S.seq<|S.region rfl<|O.q 2 rfl<|O.bM (.p rfl) rfl aa rfl rfl ai (LN (b:=jG) hT ha b9 fI) ?_;rintro _ _ ⟨rfl,rfl⟩
    try simp only [an,aq,au]
    refine O.nil<|S.seq<|S.region rfl<|O.q 2 rfl<|O.bM (.p rfl) rfl aa rfl rfl ai (LN (b:=lP) hT hb b9 cN) ?_;rintro _ _ ⟨rfl,rfl⟩
    try simp only [an,aq,au]
    refine O.nil (S.seq ?_);generalize (if jy s l=0 then fN [] l else [])=b7 at vo Iw ⊢;generalize (if jy s l2=0 then fN [] l2 else [])=a_ at p6 tC ⊢;have dM:fR g.h Fr.emp s a_:=⟨Fr.c6 _,p6,Ca tC,hH,hK⟩;refine S.open (bs:=fun k:Fr=>[jq k,dc aF Fr.emp k jG s b7]) ai (fun m x=>x) fun k=>?_;simp only [List.cons_append,List.nil_append];refine S.ep (A:=jq k) ai fun g hs hm ⟨_,x',s'⟩=>?_;have hk:=EW s' x';clear x' s';replace hg:=Fr.aI hg hs;replace hR:=bu hR hm
    try replace ha:=ha.mono hs
    try replace hb:=hb.mono hs
    try replace ho:=ho.mono hs
    try replace hH:=hH.mono hs
    try replace hK:=hK.mono hs
    try replace hT:=hT.mono hs
    try replace dM:=dM.mono hs
    clear hs hm;obtain ⟨e,he⟩:∃ e:Fr,e=g.h:=⟨_,rfl⟩;have dL:fR g.h e s b7:=⟨he ▸ Fr.bY _,vo,Ca Iw,hH,hK⟩;refine S.ct (A:=dc aF e Fr.emp jG s b7) (bs:=[dc aF Fr.emp k jG s b7]) aW (fun m h=>Gd (Fr.c6 _) (he ▸ hk) h) ?_;refine S.region rfl<|O.q 3 rfl<|O.eO (.p rfl) rfl aa rfl rfl (bs:=[dc aF e Fr.emp jG s b7,aY aF Fr.emp lP s a_]) aW (K8 dL dM hs4 ho tC) ?_;rintro v53 _ ⟨D,n,aZ,aaP,aaR,rfl,hfo,rfl⟩
    try simp only [an,aq,au]
    refine O.q 4 rfl<|O.sT 56 rfl aK ?_;refine O.q 3 rfl<|O.nil<|S.seq<|S.seq<|S.region rfl<|O.q 1 rfl<|O.op (.p rfl) (.not rfl)<|O.nil<|S.aQ rfl<|S.skip<|S.seq<|S.ct (A:=aY aF e jG s b7) (bs:=[dc aF e Fr.emp jG s b7]) aW (fun m h=>Ms h) ?_;refine S.Ij (T:=cv) rfl ai fun g hs hm hOut=>?_;replace hg:=Fr.aI hg hs;replace hR:=bu hR hm
    try replace ha:=ha.mono hs
    try replace hb:=hb.mono hs
    try replace ho:=ho.mono hs
    try replace hH:=hH.mono hs
    try replace hK:=hK.mono hs
    try replace hT:=hT.mono hs
    try replace dM:=dM.mono hs
    try replace hk:=hk.mono hs
    try replace dL:=dL.mono hs
    clear hs hm;have hlen:=hfo.len;have IP:=hfo.s5;rw [List.length_nil] at IP;have hole:=Fs tC D;refine S.region rfl<|O.q 1 rfl<|O.c4 (.p rfl) rfl aa rfl rfl (bs:=[aY aF Fr.emp lP s a_]) aW (fun m hm hd=>yE (aY.gY dM.hd hd hm) p6 dM.small) ?_;rintro _ _ ⟨a60,YM,rfl,rfl⟩
    try simp only [an,aq,au]
    refine O.q 1 rfl<|O.nil<|S.seq<|S.seq<|S.Ij (T:=bP) rfl ai fun g hs hm hV=>?_;replace hg:=Fr.aI hg hs;replace hR:=bu hR hm
    try replace ha:=ha.mono hs
    try replace hb:=hb.mono hs
    try replace ho:=ho.mono hs
    try replace hH:=hH.mono hs
    try replace hK:=hK.mono hs
    try replace hT:=hT.mono hs
    try replace dM:=dM.mono hs
    try replace hk:=hk.mono hs
    try replace dL:=dL.mono hs
    try replace hOut:=hOut.mono hs
    clear hs hm;refine S.region rfl<|O.q 1 rfl<|O.nil<|S.block<|S.pk (ζ:=[aY aF e jG s b7,aY aF Fr.emp lP s a_,cc aF 89 e aZ s b7 3 true [] (bw a_) n]) jf ?_;refine S.eM (ι:=Nat) (fun i=>i≤a_.length) (fun i=>[(16,.int .i64 (i:Int))]) [(3,_),(10,_),(11,_),(12,_),(13,_),(15,_)] (fun i=>[aY aF e jG s b7,aY aF Fr.emp lP s a_,cc aF 89 e aZ s b7 3 true [] (bw a_) n]) (fun i=>a_.length - i) (0) bL (.cons rfl (.nil)) (.cons rfl (.cons rfl (.cons rfl (.cons rfl (.cons rfl (.cons rfl (.nil))))))) rfl fun i hx ih=>?_;have bh:=cH (g:=g);refine S.seq<|S.seq<|S.region rfl<|O.q 2 rfl<|O.op (.p rfl) (.len rfl underlying25 rfl)<|O.op (.p rfl) (.lss rfl rfl)<|O.nil ?_
    first|refine S.cm rfl (fun gl=>?_) (fun gl=>?_)|refine S.b_ rfl (fun gl=>?_) (fun gl=>?_)
    ·have hi:i<a_.length:=by omega
     have DZ:=List.getElem_mem hi;have pH:=tC.2 _ DZ
     by_cases hq:kF b7 a_[i].1=a_[i].2.1
     ·
      refine S.skip<|S.seq<|S.block<|S.seq<|S.seq<|S.bC (L:=[0,1,2,3,4,5,7,8,9,10,11,6,12]) bz aa<|af.q 3 rfl<|af.bR (.p rfl) underlying25 cQ rfl rfl (show _=(((i):Nat):Int) by omega) (hV) (h:=fun UJ NU Ef EC=>?_);obtain ⟨l1,m1,rfl,Td,l3⟩:=bP.sh EC;refine .quiet (.p rfl) rfl (fun _=>.fieldAddr ef rfl)<|.quiet (.p rfl) rfl (fun _=>.loadAt bQ rfl Ef rfl) ?_;refine af.q 2 rfl<|af.bR (.p rfl) underlying25 cQ rfl rfl (show _=(((i):Nat):Int) by omega) (hV) (h:=fun UK NV Eh ED=>?_);obtain ⟨n1,o1,rfl,n2,n3⟩:=bP.sh ED;refine .quiet (.p rfl) rfl (fun _=>.fieldAddr eA rfl)<|.quiet (.p rfl) rfl (fun _=>.loadAt dO rfl (Eh.drop 1) rfl) ?_;refine af.bM (.p rfl) aa rfl aa rfl rfl ai (F6 (b:=jG) (p:=a_[i].1) dL) ?_;rintro _ _ ⟨B1,Cj,rfl,rfl⟩
      try simp only [an,aq,au]
      refine af.c4 (.p rfl) aa rfl aa rfl rfl (bs:=[cD (dr b8) 102 (.slice B1 (kF b7 a_[i].1).length Cj) (kF b7 a_[i].1)]) aW (fun m hm hd=>FY ((x6 hm).mono (Fr.dB hd)) (n3.mono (Fr.dh _ _))) ?_;rintro _ _ ⟨rfl,rfl⟩
      try simp only [an,aq,au]
      refine af.sT 79 rfl (by exact decide_eq_true hq) ?_;refine aJ.nil<|S.bx rfl<|S.exit rfl<|S.region rfl<|O.q 1 rfl<|O.op (.p rfl) (.add rfl rfl (IntWalk.i64_in _ ah))<|O.q 1 rfl<|O.nil ?_;exact S.pw (ih (i+1) ah ah)
     ·
      refine S.skip<|S.seq<|S.block<|S.seq<|S.seq<|S.bC (L:=[0,1,2,3,4,5,7,8,9,10,11,6,12]) bz aa<|af.q 3 rfl<|af.bR (.p rfl) underlying25 cQ rfl rfl (show _=(((i):Nat):Int) by omega) (hV) (h:=fun UJ NU Ef EC=>?_);obtain ⟨l1,m1,rfl,Td,l3⟩:=bP.sh EC;refine .quiet (.p rfl) rfl (fun _=>.fieldAddr ef rfl)<|.quiet (.p rfl) rfl (fun _=>.loadAt bQ rfl Ef rfl) ?_;refine af.q 2 rfl<|af.bR (.p rfl) underlying25 cQ rfl rfl (show _=(((i):Nat):Int) by omega) (hV) (h:=fun UK NV Eh ED=>?_);obtain ⟨n1,o1,rfl,n2,n3⟩:=bP.sh ED;refine .quiet (.p rfl) rfl (fun _=>.fieldAddr eA rfl)<|.quiet (.p rfl) rfl (fun _=>.loadAt dO rfl (Eh.drop 1) rfl) ?_;refine af.bM (.p rfl) aa rfl aa rfl rfl ai (F6 (b:=jG) (p:=a_[i].1) dL) ?_;rintro _ _ ⟨B1,Cj,rfl,rfl⟩
      try simp only [an,aq,au]
      refine af.c4 (.p rfl) aa rfl aa rfl rfl (bs:=[cD (dr b8) 102 (.slice B1 (kF b7 a_[i].1).length Cj) (kF b7 a_[i].1)]) aW (fun m hm hd=>FY ((x6 hm).mono (Fr.dB hd)) (n3.mono (Fr.dh _ _))) ?_;rintro _ _ ⟨rfl,rfl⟩
      try simp only [an,aq,au]
      refine af.aM 79 rfl (by exact decide_eq_false hq) ?_;refine aJ.nil<|S.aQ rfl<|S.skip<|S.seq<|S.pk (ζ:=[aY aF e jG s b7,aY aF Fr.emp lP s a_,cc aF 89 e aZ s b7 3 true [] (bw a_) n]) jf ?_;refine S.region rfl<|O.q 1 rfl<|O.nil<|S.block<|S.eM (ι:=Nat) (fun k=>k≤a_[i].2.1.length) (fun k=>[(17,.int .i64 (k:Int))]) [(3,_),(10,_),(11,_),(12,_),(13,_),(15,_),(16,_)] (fun k=>[aY aF e jG s b7,aY aF Fr.emp lP s a_,cc aF 89 e aZ s b7 3 true [] (bw a_) n]) (fun k=>a_[i].2.1.length - k) (0) bL (.cons rfl (.nil)) (.cons rfl (.cons rfl (.cons rfl (.cons rfl (.cons rfl (.cons rfl (.cons rfl (.nil)))))))) rfl fun k hx ih=>?_;have hm2:=cH (g:=g)
      by_cases hk2:k<a_[i].2.1.length
      ·by_cases hin:a_[i].2.1[k]∈eY a_ D
       ·
        refine S.seq<|S.seq<|S.region rfl<|O.q 3 rfl<|O.bR (.p rfl) underlying25 cQ rfl rfl (show _=(((i):Nat):Int) by omega) (hV) (h:=fun KF HN xD xJ=>?_);obtain ⟨p1,u1,rfl,p2,p3⟩:=bP.sh xJ;refine O.op (.p rfl) (.fieldAddr eA rfl)<|O.op (.p rfl) (.loadAt dO rfl (xD.drop 1) rfl) ?_;refine O.op (.p rfl) (.len rfl underlying22 rfl)<|O.op (.p rfl) (.lss rfl rfl)<|O.sT 87 rfl (by exact decide_eq_true ah) ?_;refine O.nil<|S.bx rfl<|S.skip<|S.seq<|S.block<|S.seq<|S.region rfl<|O.q 3 rfl<|O.bR (.p rfl) underlying25 cQ rfl rfl (show _=(((i):Nat):Int) by omega) (hV) (h:=fun UL NW Ei EF=>?_);obtain ⟨v1,w1,rfl,v2,v3⟩:=bP.sh EF;refine O.op (.p rfl) (.fieldAddr eA rfl)<|O.op (.p rfl) (.loadAt dO rfl (Ei.drop 1) rfl) ?_;refine O.q 1 rfl<|O.bR (.p rfl) underlying22 mz rfl rfl (show _=(((k):Nat):Int) by omega) (v3) (h:=fun UM NX Ej xK=>?_);have xM:=xK;obtain ⟨ew,eC,eD,wh,By,Bz,rfl,z20,z21,z22,z23,z25,z26⟩:=cv.sh xK;refine O.op (.p rfl) (.bE isAgg102 aa rfl Ej) ?_;refine O.aC (.p rfl) rfl aa rfl rfl ((DG hOut xM)) ?_;rintro _ _ ⟨rfl,rfl⟩
        try simp only [an,aq,au]
        refine O.sT 99 rfl (by exact decide_eq_true hin) ?_;refine O.op (.p rfl) (.not rfl)<|O.q 11 rfl<|O.nil<|S.aQ rfl<|S.skip<|S.inBlock<|S.region rfl<|O.q 1 rfl<|O.op (.p rfl) (.add rfl rfl (IntWalk.i64_in _ ah))<|O.q 1 rfl<|O.nil ?_;exact S.pw (ih (k+1) ah ah)
       ·have Ro:=found (s:=s) hfo DZ (List.getElem_mem hk2) hin
        have I4:=(ue.1 (p6.1 _ DZ).1).1.2;refine S.seq<|S.seq<|S.region rfl<|O.q 3 rfl<|O.bR (.p rfl) underlying25 cQ rfl rfl (show _=(((i):Nat):Int) by omega) (hV) (h:=fun KF HN xD xJ=>?_);obtain ⟨p1,u1,rfl,p2,p3⟩:=bP.sh xJ;refine O.op (.p rfl) (.fieldAddr eA rfl)<|O.op (.p rfl) (.loadAt dO rfl (xD.drop 1) rfl) ?_;refine O.op (.p rfl) (.len rfl underlying22 rfl)<|O.op (.p rfl) (.lss rfl rfl)<|O.sT 87 rfl (by exact decide_eq_true ah) ?_;refine O.nil<|S.bx rfl<|S.skip<|S.seq<|S.block<|S.seq<|S.region rfl<|O.q 3 rfl<|O.bR (.p rfl) underlying25 cQ rfl rfl (show _=(((i):Nat):Int) by omega) (hV) (h:=fun UL NW Ei EF=>?_);obtain ⟨v1,w1,rfl,v2,v3⟩:=bP.sh EF;refine O.op (.p rfl) (.fieldAddr eA rfl)<|O.op (.p rfl) (.loadAt dO rfl (Ei.drop 1) rfl) ?_;refine O.q 1 rfl<|O.bR (.p rfl) underlying22 mz rfl rfl (show _=(((k):Nat):Int) by omega) (v3) (h:=fun UM NX Ej xK=>?_);have xM:=xK;obtain ⟨ew,eC,eD,wh,By,Bz,rfl,z20,z21,z22,z23,z25,z26⟩:=cv.sh xK;refine O.op (.p rfl) (.bE isAgg102 aa rfl Ej) ?_;refine O.aC (.p rfl) rfl aa rfl rfl ((DG hOut xM)) ?_;rintro _ _ ⟨rfl,rfl⟩
        try simp only [an,aq,au]
        refine O.aM 99 rfl (by exact decide_eq_false hin) ?_;refine O.op (.p rfl) (.not rfl)<|O.q 5 rfl<|O.bR (.g rfl rfl) underlying25 cQ rfl rfl (show _=(((i):Nat):Int) by omega) (hV) (h:=fun aaU YS Qw QY=>?_);obtain ⟨s1,w2,rfl,s2,s3⟩:=bP.sh QY;refine O.op (.g rfl rfl) (.fieldAddr ef rfl)<|O.op (.g rfl rfl) (.loadAt bQ rfl Qw rfl) ?_;refine O.eO (.g rfl rfl) rfl aa rfl rfl (bs:=[aY aF e jG s b7,aY aF Fr.emp lP s a_]) aW (XY dL dM ah) ?_;rintro _ _ ⟨rfl,rfl⟩
        try simp only [an,aq,au]
        refine O.sT 109 rfl (by exact decide_eq_true Ro) ?_;refine O.op (.g rfl rfl) (.not rfl)<|O.q 1 rfl<|O.nil<|S.aQ rfl<|S.skip<|S.inBlock<|S.region rfl<|O.q 1 rfl<|O.op (.p rfl) (.add rfl rfl (IntWalk.i64_in _ ah))<|O.q 1 rfl<|O.nil ?_;exact S.pw (ih (k+1) ah ah)
      ·clear ih
       refine S.seq<|S.seq<|S.region rfl<|O.q 3 rfl<|O.bR (.p rfl) underlying25 cQ rfl rfl (show _=(((i):Nat):Int) by omega) (hV) (h:=fun KF HN xD xJ=>?_);obtain ⟨p1,u1,rfl,p2,p3⟩:=bP.sh xJ;refine O.op (.p rfl) (.fieldAddr eA rfl)<|O.op (.p rfl) (.loadAt dO rfl (xD.drop 1) rfl) ?_;refine O.op (.p rfl) (.len rfl underlying22 rfl)<|O.op (.p rfl) (.lss rfl rfl)<|O.aM 87 rfl (by exact decide_eq_false ah) ?_;refine O.nil<|S.aQ rfl<|S.exit rfl<|S.inBlock<|S.region rfl<|O.q 1 rfl<|O.op (.p rfl) (.add rfl rfl (IntWalk.i64_in _ ah))<|O.q 1 rfl<|O.nil ?_;exact S.pw (ih (i+1) ah ah)
    ·clear ih
     refine S.exit rfl<|S.seq<|S.seq<|S.region rfl<|O.q 1 rfl<|O.nil<|S.block<|S.eM (ι:=Nat) (fun i=>i≤(eY a_ D).length) (fun i=>[(18,.int .i64 (i:Int))]) [(3,_),(10,_),(11,_),(12,_),(13,_),(15,_)] (fun i=>[aY aF e jG s b7,aY aF Fr.emp lP s a_,cc aF 89 e aZ s b7 3 true [] (bw a_) n]) (fun i=>(eY a_ D).length - i) (0) bL (.cons rfl (.nil)) (.cons rfl (.cons rfl (.cons rfl (.cons rfl (.cons rfl (.cons rfl (.nil))))))) rfl fun i hx ih=>?_;have hm2:=cH (g:=g);refine S.seq<|S.seq<|S.region rfl<|O.q 2 rfl<|O.op (.p rfl) (.len rfl underlying22 rfl)<|O.op (.p rfl) (.lss rfl rfl)<|O.nil ?_
     first|refine S.cm rfl (fun C4=>?_) (fun C4=>?_)|refine S.b_ rfl (fun C4=>?_) (fun C4=>?_)
     ·have hi:i<(eY a_ D).length:=by omega
      have hin:=UA p6 (List.getElem_mem hi);refine S.skip<|S.seq<|S.block<|S.seq<|S.bC (L:=[0,1,2,3,4,5,7,8,9,10,6,11,12]) bz aa<|af.q 3 rfl<|af.bR (.p rfl) underlying22 mz rfl rfl (show _=(((i):Nat):Int) by omega) (hOut) (h:=fun aaV YU Qx QZ=>?_);obtain ⟨v3,v5,v6,w3,abH,abI,rfl,z0,abN,z2,z3,z5,abO⟩:=cv.sh QZ;refine .quiet (.p rfl) rfl (fun _=>.fieldAddr e6 rfl)<|.quiet (.p rfl) rfl (fun _=>.loadAt bQ rfl Qx rfl) ?_;refine af.q 2 rfl<|af.bR (.p rfl) underlying22 mz rfl rfl (show _=(((i):Nat):Int) by omega) (hOut) (h:=fun aaW YV Qy Je=>?_);have xM:=Je;obtain ⟨ew,eC,eD,wh,By,Bz,rfl,z20,z21,z22,z23,z25,z26⟩:=cv.sh Je;refine .quiet (.p rfl) rfl (fun _=>.bE isAgg102 aa rfl Qy) ?_;refine af.bM (.p rfl) aa rfl aa rfl rfl ai (F6 (b:=lP) (p:=(eY a_ D)[i].1) dM) ?_;rintro _ _ ⟨a124,M8,rfl,rfl⟩
      try simp only [an,aq,au]
      refine af.c4 (.p rfl) aa rfl aa rfl rfl (bs:=[cD (dr b8) 102 (.slice a124 (kF a_ (eY a_ D)[i].1).length M8) (kF a_ (eY a_ D)[i].1)]) aW (fun m hm hd=>DG ((x6 hm).mono (Fr.dB hd)) (ag.rel.mono xM (Fr.dh _ _))) ?_;rintro _ _ ⟨rfl,rfl⟩
      try simp only [an,aq,au]
      refine af.sT 129 rfl (by exact decide_eq_true hin) ?_;refine .quiet (.p rfl) rfl (fun _=>.not rfl)<|aJ.nil<|S.aQ rfl<|S.skip<|S.inBlock<|S.region rfl<|O.q 1 rfl<|O.op (.p rfl) (.add rfl rfl (IntWalk.i64_in _ ah))<|O.q 1 rfl<|O.nil ?_;exact S.pw (ih (i+1) ah ah)
     ·clear ih
      refine S.exit rfl<|S.seq<|S.seq<|S.vb (fun (gA:Unit)=>True) (fun (gA:Unit)=>[]) [(3,_),(11,_)] (fun (gA:Unit)=>[aY aF e jG s b7,aY aF Fr.emp lP s a_,cc aF 89 e aZ s b7 3 true [] (bw a_) n]) (.cons rfl (.cons rfl (.nil))) (fun key=>?_) (fun gA hx=>?_)
      ·have DY:=cH (g:=g)
       by_cases hL:b7=a_
       ·have hn0:n=0:=by have:=hfo;rw [hL] at this;exact (Ih this).2
        refine S.region rfl<|O.q 1 rfl<|O.c4 (.p rfl) rfl aa rfl rfl (bs:=[aY aF e jG s b7]) aW (fun m hm hd=>yE (aY.gY dL.hd hd hm) vo dL.small) ?_;rintro _ _ ⟨BY,Cb,rfl,rfl⟩
        try simp only [an,aq,au]
        refine O.q 1 rfl<|O.c4 (.p rfl) rfl aa rfl rfl (bs:=[cD (ek b8) 31 (.slice BY b7.length Cb) b7]) aW (fun m hm hd=>Ln ((x6 hm).mono (Fr.dB hd)) (hV.mono (Fr.dh _ _))) ?_;rintro _ _ ⟨rfl,rfl⟩
        try simp only [an,aq,au]
        refine O.sT 134 rfl (by exact decide_eq_true hL) ?_;refine O.q 2 rfl<|O.bM (.g rfl rfl) rfl aa rfl rfl ai (Ld aB) ?_;rintro _ _ ⟨rfl,rfl⟩
        try simp only [an,aq,au]
        refine O.op (.g rfl rfl) (.neq rfl rfl)<|O.aM 138 rfl (by exact decide_eq_false ah) ?_;refine O.q 1 rfl<|O.nil<|S.aQ rfl<|S.skip<|S.pk ?_ (S.weaken ?_ (key (()) (by trivial)))
        ·repeat (first|exact aS|exact aU|(apply aT;focus (repeat (first|exact aR|apply zt)))|apply aV)
        repeat (first|exact Sub.nil|refine Sub.cons rfl ?_)
       ·
        refine S.region rfl<|O.q 1 rfl<|O.c4 (.p rfl) rfl aa rfl rfl (bs:=[aY aF e jG s b7]) aW (fun m hm hd=>yE (aY.gY dL.hd hd hm) vo dL.small) ?_;rintro _ _ ⟨BY,Cb,rfl,rfl⟩
        try simp only [an,aq,au]
        refine O.q 1 rfl<|O.c4 (.p rfl) rfl aa rfl rfl (bs:=[cD (ek b8) 31 (.slice BY b7.length Cb) b7]) aW (fun m hm hd=>Ln ((x6 hm).mono (Fr.dB hd)) (hV.mono (Fr.dh _ _))) ?_;rintro _ _ ⟨rfl,rfl⟩
        try simp only [an,aq,au]
        refine O.aM 134 rfl (by exact decide_eq_false hL) ?_;refine O.q 5 rfl<|O.nil<|S.aQ rfl<|S.skip<|S.pk ?_ (S.weaken ?_ (key (()) (by trivial)))
        ·repeat (first|exact aS|exact aU|(apply aT;focus (repeat (first|exact aR|apply zt)))|apply aV)
        repeat (first|exact Sub.nil|refine Sub.cons rfl ?_)
      ·refine S.open (bs:=fun k:Fr=>[jq k,dc aF Fr.emp k lP s a_]) ai (fun m x=>x) fun k2=>?_
       simp only [List.cons_append,List.nil_append];refine S.ep (A:=jq k2) ai fun g hs hm ⟨_,x',s'⟩=>?_;have hk2:=EW s' x';clear x' s';replace hg:=Fr.aI hg hs;replace hR:=bu hR hm
       try replace ha:=ha.mono hs
       try replace hb:=hb.mono hs
       try replace ho:=ho.mono hs
       try replace hH:=hH.mono hs
       try replace hK:=hK.mono hs
       try replace hT:=hT.mono hs
       try replace dM:=dM.mono hs
       try replace hk:=hk.mono hs
       try replace dL:=dL.mono hs
       try replace hOut:=hOut.mono hs
       try replace hV:=hV.mono hs
       replace bh:=dQ bh hm;replace hm2:=dQ hm2 hm;clear hs hm;obtain ⟨e2,zW⟩:∃ e:Fr,e=g.h:=⟨_,rfl⟩;have Du:fR g.h e2 s a_:=⟨zW ▸ Fr.bY _,p6,Ca tC,hH,hK⟩;refine S.ct (A:=dc aF e2 Fr.emp lP s a_) (bs:=[dc aF Fr.emp k2 lP s a_]) aW (fun m h=>Gd (Fr.c6 _) (zW ▸ hk2) h) ?_;refine S.seq<|S.region rfl<|O.q 2 rfl<|O.bM (.p rfl) rfl aa rfl rfl ai (LM Du hs4) ?_;rintro _ _ ⟨ML,rfl,rfl⟩
       try simp only [an,aq,au]
       refine O.q 1 rfl<|O.eO (.p rfl) rfl aa rfl rfl (bs:=[dc aF e2 Fr.emp lP s a_,aY aF e2 ML s a_]) aW (K8 Du Du hs4 ho tC) ?_;rintro v145 _ ⟨YA,n2,YK,aaQ,aaS,rfl,PW,rfl⟩
       try simp only [an,aq,au]
       refine O.q 4 rfl<|O.sT 148 rfl aK ?_;refine O.q 3 rfl<|O.nil (S.seq ?_);obtain ⟨OT,hn2⟩:=Ih PW;subst OT hn2;refine S.region rfl<|O.q 3 rfl<|O.bM (.g rfl rfl) rfl aa rfl rfl ai (Ld aB) ?_;rintro _ _ ⟨rfl,rfl⟩
       try simp only [an,aq,au]
       refine O.op (.g rfl rfl) (.eql rfl rfl)<|O.sT 153 rfl aK ?_;refine O.q 3 rfl<|O.op (.g rfl rfl) (.len rfl underlying22 rfl)<|O.op (.g rfl rfl) (.eql rfl rfl)<|O.sT 158 rfl aK ?_;refine O.q 2 rfl<|O.nil ?_;exact S.rt results11 rfl hR ⟨rfl,rfl⟩
end Go.Proofs.YtojafegjlahajaaGreatDoor
