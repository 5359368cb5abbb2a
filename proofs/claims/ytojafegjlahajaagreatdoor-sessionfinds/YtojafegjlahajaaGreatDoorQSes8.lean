/- Texts of this proof. -/
import Derived.Test.YtojafegjlahajaaGreatDoorQSes6
open Go Go.Sp Go.Proofs.Tryz
set_option maxRecDepth 100000
set_option maxHeartbeats 1000000
attribute [local irreducible] obj Own av
namespace Go.Proofs.YtojafegjlahajaaGreatDoor
attribute [local irreducible] bN bw
noncomputable def kv (L:List aD) (F:List UInt8→List UInt8) (p:List UInt8) (x:ed):List (List UInt8):=if x.1=3 then c7 L F [p++[48],p++[49]] else []
theorem G0 (L:List aD) (F:List UInt8→List UInt8) (p:List UInt8) (x:ed):(kv L F p x).length≤2:=by
 unfold kv;split
 ·exact GZ L F _
 ·exact Nat.zero_le _
def g_ (l:List aD) (i k:Nat):List aP:=((l.take i).map (·.2.1)).flatten++(((l.drop i).head?.map (·.2.1)).getD []).take k
def pN (x:ed):List aP:=(x.2.2.2.1.map (·.2.1)).flatten
theorem K2 (l:List aD):g_ l 0 0=[]:=by simp [g_]
theorem FM {l:List aD} {i:Nat} (h:i<l.length) (k:Nat):g_ l i k=((l.take i).map (·.2.1)).flatten++l[i].2.1.take k:=by
 unfold g_;rw [List.drop_eq_getElem_cons h];rfl
theorem VW {l:List aD} {i k:Nat} (h:i<l.length) (hk:k<l[i].2.1.length):g_ l i k++[l[i].2.1[k]]=g_ l i (k+1):=by
 rw [FM h,FM h,List.append_assoc,List.take_succ_eq_append_getElem hk]
theorem K3 (l:List aD) (i:Nat):g_ l i 0=((l.take i).map (·.2.1)).flatten:=by unfold g_;rw [List.take_zero,List.append_nil]
theorem VY {l:List aD} {i:Nat} (h:i<l.length):g_ l i l[i].2.1.length=g_ l (i+1) 0:=by
 rw [FM h,K3,List.take_length,List.take_succ_eq_append_getElem h,List.map_append,List.flatten_append];simp
theorem VV (x:ed):g_ x.2.2.2.1 x.2.2.2.1.length 0=pN x:=by rw [K3,List.take_length];rfl
theorem Aq {N M:Nat}:∀ (l:List aD),(∀ y∈l,y.2.1.length≤M)→l.length≤N→((l.map (·.2.1)).flatten).length≤N*M
 |[],_,_=>Nat.zero_le _
 |y::l,h,hl=>by
  rw [List.map_cons,List.flatten_cons,List.length_append];rw [List.length_cons] at hl;obtain ⟨N,rfl⟩:∃ k,N=k+1:=⟨N - 1,by omega⟩;have h1:=Aq (N:=N) l (fun z hz=>h z (by simp [hz])) ah;have h2:=h y bL;rw [Nat.succ_mul];omega
theorem VX {l:List aD} {i k:Nat} (hl:l.length≤100000) (hs:∀ y∈l,y.2.1.length≤100000):(g_ l i k).length≤20000000000:=by
 unfold g_;rw [List.length_append,List.length_take];have h1:=Aq (N:=100000) (M:=100000) (l.take i) (fun z hz=>hs z (List.mem_of_mem_take hz)) (by rw [List.length_take];omega);have h2:(((l.drop i).head?.map (·.2.1)).getD []).length≤100000:=by
  cases e:(l.drop i).head? with
  |none=>exact Nat.zero_le _
  |some y=>exact hs y (List.mem_of_mem_drop (List.mem_of_head? e))
 omega
theorem X0 (p:List UInt8):[p++[48],p++[49]].Nodup:=by
 rw [List.nodup_cons];refine ⟨fun h=>?_,by simp⟩;rw [List.mem_singleton] at h;exact absurd (List.append_cancel_left h) aB
theorem XZ {p q:List UInt8} (h:q∈[p++[48],p++[49]]):q=p++[48]∨q=p++[49]:=by simpa using h
theorem Pv {x:ed} (h:gB x) (h3:x.1=3):x.2.1.length=64∧x.2.2.1.length=64:=by
 rcases h.2 with q|q|q|q
 ·rw [q.1] at h3;exact absurd h3 aB
 ·rw [q.1] at h3;exact absurd h3 aB
 ·exact ⟨q.2.1,q.2.2.1⟩
 ·rw [q.1] at h3;exact absurd h3 aB
theorem VS {v:aP} (h:ej v=true):v.2.2.2.1.length≤8∧v.2.2.2.2.2.1.length≤1024∧v.2.2.2.2.2.2.1.length=64:=by
 have h1:=yA.1 (vW.1 h).1;exact ⟨yq h1.2.2.2.1,h1.2.2.2.2.2.1,(vW.1 h).2⟩
theorem UX {d:Fr} {aZ s n:Nat} {L:List aD} {peer:Int} {cg:Bool} {W:List (List UInt8)} {F F' :List UInt8→List UInt8} {p:List UInt8} {m:Fr} (z:kp W F) (Dq:∀ q∈W,F q=F' q)
  (h:Sat (iC aF 89 d z.k aZ z.bI z.mp s L peer cg n (gQ z.M p) z.c) m):cc aF 89 d aZ s L peer cg (W.erase p) F' n m :=
 cc.Np (fun q hq=>Dq q (List.mem_of_mem_erase hq)) (cc.del z h)
set_option maxHeartbeats 800000 in
theorem Wv {r d:Fr} {aZ s n:Nat} {L:List aD} {peer:Int} {cg:Bool} {W:List (List UInt8)} {F F' :List UInt8→List UInt8} {p:List UInt8} {cs:List Value} {x:ed} (hT:fR r d s L) (hpos:0<peer) (h:jV.rel r cs x) (hp:p∈W) (hF:(F p).length=64) (hx2:x.2.2.2.1.length≤100000∧∀ y∈x.2.2.2.1,y.2.1.length≤100000) (nN:p.length≤1000) (ow:rN s p (F p) x) (hn:n≤200000)
  (Dq:∀ q∈W,F q=F' q) (zN:x.1=3→F' (p++[48])=x.2.1∧F' (p++[49])=x.2.2.1∧p++[48] ∉ W∧p++[49] ∉ W) :
  ay prog 54 #[.pointer (some ⟨aZ,0,none⟩),.string (str p),.agg cs.toArray] r [cc aF 89 d aZ s L peer cg W F n] (aL fun v U=>∃ a c a' c',v=.tuple #[.slice a (pN x).length c,.slice a' (kv L F' p x).length c',.int .i64 0] ∧
   U=[cc aF 89 d aZ s L peer cg (W.erase p++kv L F' p x) F' (n+(kv L F' p x).length),cD (dr b8) 102 (.slice a (pN x).length c) (pN x),av ag.str 9 (.slice a' (kv L F' p x).length c') (kv L F' p x)]):=by
 have h0:=h;obtain ⟨yN,Bu,iH,yO,Bw,iI,rfl,k1,k2,bk⟩:=jV.sh h;have hok:=ow.1;have h12:=Km hok;have Rt :x.2.2.2.1.length≤10000000∧∀ y∈x.2.2.2.1,y.2.1.length≤10000000:=⟨by omega,fun y hy=>by have:=hx2.2 y hy;omega⟩;have h2:=G0 L F' p x;have hps:(str p).size=p.length:=sJ p;have aac:(⟨#[48]⟩:ByteArray).size=1:=rfl;have aad:(⟨#[49]⟩:ByteArray).size=1:=rfl;refine ay.of (n:=104) _ rfl func54 rfl rfl rfl fun g hg R hR=>?_;have hT:=hT.mono hg;have h0:=h0.mono hg;have k1:=k1.mono hg;have k2:=k2.mono hg;have bk:=bk.mono hg;refine S.open (bs:=fun z:kp W F=>iC aF 89 d z.k aZ z.bI z.mp s L peer cg n z.M z.c) .here (fun m h=>cc.jc h) fun z=>?_;simp only [iC,List.cons_append,List.nil_append];obtain ⟨pv,e⟩:=z.has.1 hp;have hv:=z.ok p pv e;obtain ⟨pa,pc,rfl⟩:=hv.shape;rw [hF] at e hv;refine S.seq<|S.region rfl<|O.aN (.p rfl) (.box (cs:=[_,_,_,_]) rfl rfl) ?_;rintro _ _ ⟨iN,rfl,rfl⟩;refine O.q 3 rfl<|O.nil<|S.seq<|S.seq<|S.dx (b:=iN) (cs' :=[bK x.1,.slice yN x.2.1.length yO,.slice Bu x.2.2.1.length Bw,.slice iH x.2.2.2.1.length iI]) ai rfl ?_;refine S.de ai fun g hs hm h5=>?_;replace hg:=Fr.aI hg hs;replace hR:=bu hR hm
 try replace hT:=hT.mono hs
 try replace h0:=h0.mono hs
 try replace k1:=k1.mono hs
 try replace k2:=k2.mono hs
 try replace bk:=bk.mono hs
 clear hs hm;refine S.region rfl<|O.q 1 rfl<|O.bM (.p rfl) rfl aa rfl rfl ai (ri hpos) ?_;rintro _ _ ⟨rfl,rfl⟩
 try simp only [an,aq,au]
 refine O.sT 16 rfl aK ?_;refine O.op (.p rfl) (.not rfl)<|O.nil<|S.aQ rfl<|S.skip<|S.seq<|S.region rfl<|O.q 1 rfl<|O.op (.p rfl) (.nilCheck rfl)<|O.op (.p rfl) (.aH qH rfl)<|O.op (.p rfl) (.aH w5 rfl)<|O.op (.p rfl) (.lo lW) ?_;refine O.q 1 rfl<|O.op (.p rfl) (.pJ underlying75 (q3 underlying9) zeroValue24 rfl rfl ai) ?_;refine O.slot 25 (v' :=.tuple #[.slice pa 64 pc,.bool true]) rfl (by rw [e];rfl) ?_;refine O.q 3 rfl<|O.sT 27 rfl aK ?_;refine O.q 2 rfl<|O.nil<|S.seq<|S.block<|S.seq<|S.region rfl<|O.q 1 rfl<|O.op (.p rfl) (.not rfl)<|O.q 1 rfl<|O.nil<|S.aQ rfl<|S.seq<|S.region rfl<|O.q 3 rfl<|O.op (.p rfl) (.bE isAgg27 aa rfl h5) ?_;refine O.c4 (.p rfl) rfl aa rfl rfl (bs:=[jq z.k,obj aZ 89 [.pointer (some ⟨z.bI,0,none⟩),.map (some z.mp),.int .i64 (n:Int),.int .i64 peer,.bool cg],aY aF d z.bI s L]) aW (fun m hm hd=>Ws (FA hT.hd hd hm).2.1 (FA hT.hd hd hm).2.2 (hv.mono (FA hT.hd hd hm).1) (ag.rel.mono h0 (Fr.dh _ _)) h12 Rt hF (hT.hH.mono (Fr.dh _ _)) (hT.hK.mono (Fr.dh _ _)) ah) ?_;rintro _ _ ⟨rfl,rfl⟩
 try simp only [an,aq,au]
 refine O.sT 36 rfl (by exact decide_eq_true ow) ?_;refine O.op (.p rfl) (.not rfl)<|O.q 1 rfl<|O.nil<|S.aQ rfl<|S.skip<|S.inBlock<|S.seq<|S.region rfl<|O.q 1 rfl<|O.op (.p rfl) (.nilCheck rfl)<|O.op (.p rfl) (.aH qH rfl)<|O.op (.p rfl) (.aH w5 rfl)<|O.op (.p rfl) (.lo lW) ?_;refine O.q 1 rfl<|O.HP rfl underlying75 (q3 underlying9) rfl rfl ai ?_;refine O.nil<|S.seq<|S.seq<|S.ct (A:=cc aF 89 d aZ s L peer cg (W.erase p) F' n) (bs:=iC aF 89 d z.k aZ z.bI z.mp s L peer cg n (gQ z.M p) z.c) aW (fun m h=>UX z Dq h) ?_;refine S.vb (fun (y:Option Addr × Nat)=>True) (fun (y:Option Addr × Nat)=>[(7,.slice y.1 (kv L F' p x).length y.2)]) [(0,_),(5,_),(6,_)] (fun (y:Option Addr × Nat)=>[cc aF 89 d aZ s L peer cg (W.erase p++kv L F' p x) F' (n+(kv L F' p x).length),av ag.str 9 (.slice y.1 (kv L F' p x).length y.2) (kv L F' p x)]) (.cons rfl (.cons rfl (.cons rfl (.nil)))) (fun key=>?_) (fun y hx=>?_)
 ·have bh:=cH (g:=g)
  by_cases cM:x.1=3
  ·obtain ⟨f0,f1,w0,w1⟩:=zN cM
   have gl:=Pv hok cM;have td:kv L F' p x=c7 L F' [p++[48],p++[49]]:=by unfold kv;rw [if_pos cM]
   rw [td] at key;refine S.region rfl<|O.op (.p rfl) (.fieldAddr eR rfl)<|O.op (.p rfl) (.loadAt eP rfl h5 rfl) ?_;refine O.op (.p rfl) (.eql rfl rfl)<|O.sT 46 rfl (by rw [cM];rfl) ?_;refine O.nil<|S.bx rfl<|S.region rfl<|O.q 1 rfl<|O.op (.p rfl) (.fieldAddr nC rfl)<|O.op (.p rfl) (.loadAt bl rfl (h5.drop 1) rfl) ?_;refine O.op (.p rfl) (.fieldAddr nD rfl)<|O.op (.p rfl) (.loadAt bl rfl (h5.drop 2) rfl) ?_;refine O.aN (.p rfl) (.cA (T:=ag.cells 1) (ys:=[[.slice yN x.2.1.length yO],[.slice Bu x.2.2.1.length Bw]]) underlying109 iu aB rfl rfl ⟨⟨rfl,rfl,by first|(simp;done)|(intro v hv;simp [Value.cells] at hv;rcases hv with rfl|rfl<;>rfl)|(refine List.forall_mem_cons.2 ⟨rfl,?_⟩;repeat (first|exact (fun _ h=>absurd h List.not_mem_nil)|refine List.forall_mem_cons.2 ⟨rfl,?_⟩))⟩,⟨rfl,rfl,by first|(simp;done)|(intro v hv;simp [Value.cells] at hv;rcases hv with rfl|rfl<;>rfl)|(refine List.forall_mem_cons.2 ⟨rfl,?_⟩;repeat (first|exact (fun _ h=>absurd h List.not_mem_nil)|refine List.forall_mem_cons.2 ⟨rfl,?_⟩))⟩,trivial⟩ aB) ?_;rintro _ _ ⟨ku,kz,rfl,rfl⟩;refine O.fo ai fun g hs hm qM=>?_;replace hg:=Fr.aI hg hs;replace hR:=bu hR hm
   try replace hT:=hT.mono hs
   try replace h0:=h0.mono hs
   try replace k1:=k1.mono hs
   try replace k2:=k2.mono hs
   try replace bk:=bk.mono hs
   try replace h5:=h5.mono hs
   replace bh:=dQ bh hm;clear hs hm;refine O.q 1 rfl<|O.op (.p rfl) (.yY rfl rfl ah)<|O.slot 54 (v' :=.string (str (p++[48]))) rfl (by exact congrArg _ (Bi p [48])) ?_;refine O.q 1 rfl<|O.op (.p rfl) (.yY rfl rfl ah)<|O.slot 56 (v' :=.string (str (p++[49]))) rfl (by exact congrArg _ (Bi p [49])) ?_;refine O.aN (.p rfl) (.cA (T:=ag.str) (ys:=[p++[48],p++[49]]) underlying53 gv aB rfl rfl ⟨⟨rfl,by simp;omega⟩,⟨rfl,by simp;omega⟩,trivial⟩ aB) ?_;rintro _ _ ⟨a57,Nb,rfl,rfl⟩;refine O.fo ai fun g hs hm Pf=>?_;replace hg:=Fr.aI hg hs;replace hR:=bu hR hm
   try replace hT:=hT.mono hs
   try replace h0:=h0.mono hs
   try replace k1:=k1.mono hs
   try replace k2:=k2.mono hs
   try replace bk:=bk.mono hs
   try replace h5:=h5.mono hs
   try replace qM:=qM.mono hs
   replace bh:=dQ bh hm;clear hs hm;refine O.bM (.p rfl) rfl aa rfl rfl ai (Lc hT (aj.kL (T:=ag.slice ag.u8) (xs:=[x.2.1,x.2.2.1]) qM ⟨⟨_,rfl,k1⟩,⟨_,rfl,k2⟩,trivial⟩ rfl) Pf (by simp [f0,f1]) b9 b9 (X0 p) (by intro q hq u;rcases XZ hq with rfl|rfl;exact w0 (List.mem_of_mem_erase u);exact w1 (List.mem_of_mem_erase u)) bL ah) ?_;rintro _ _ ⟨a58,wL,rfl,rfl⟩
   try simp only [an,aq,au]
   refine O.q 1 rfl<|O.nil<|S.pk ?_ (S.iA bh (S.weaken ?_ (key ((a58,wL)) (by trivial))))
   ·repeat (first|exact aS|exact aU|(apply aT;focus (repeat (first|exact aR|apply zt)))|apply aV)
   repeat (first|exact Sub.nil|refine Sub.cons rfl ?_)
  ·have td:kv L F' p x=[]:=by unfold kv;rw [if_neg cM]
   rw [td,List.append_nil] at key;refine S.gd (T:=ag.str) (e:=9) ?_;refine S.region rfl<|O.op (.p rfl) (.fieldAddr eR rfl)<|O.op (.p rfl) (.loadAt eP rfl h5 rfl) ?_;refine O.op (.p rfl) (.eql rfl rfl)<|O.aM 46 rfl (by exact decide_eq_false (fun q=>cM (oT.1 q))) ?_;refine O.nil<|S.aQ rfl<|S.skip<|S.pk ?_ (S.weaken ?_ (key ((none,0)) (by trivial)))
   ·repeat (first|exact aS|exact aU|(apply aT;focus (repeat (first|exact aR|apply zt)))|apply aV)
   repeat (first|exact Sub.nil|refine Sub.cons rfl ?_)
 ·generalize kv L F' p x=gL at *
  refine S.open (bs:=fun w:kp (W.erase p++gL) F' =>iC aF 89 d w.k aZ w.bI w.mp s L peer cg (n+gL.length) w.M w.c) ai (fun m h=>cc.jc h) fun w=>?_;simp only [iC,List.cons_append,List.nil_append];refine S.seq<|S.seq<|S.region rfl<|O.q 1 rfl<|O.op (.p rfl) (.nilCheck rfl)<|O.op (.p rfl) (.aH qH rfl)<|O.op (.p rfl) (.aH zG rfl)<|O.op (.p rfl) (.lo cz) ?_;refine O.op (.p rfl) (.gtr rfl rfl)<|O.aM 64 rfl (by exact decide_eq_false ah) ?_;refine O.nil<|S.aQ rfl<|S.skip<|S.seq<|S.seq<|S.ct (A:=cc aF 89 d aZ s L peer cg (W.erase p++gL) F' (n+gL.length)) (bs:=iC aF 89 d w.k aZ w.bI w.mp s L peer cg (n+gL.length) w.M w.c) aW (fun m h=>cc.fold w h) ?_;refine S.q6 (dr b8) 102 ?_;refine S.pk (ζ:=[cD (dr b8) 102 (.slice none 0 0) [],cc aF 89 d aZ s L peer cg (W.erase p++gL) F' (n+gL.length),av ag.str 9 (.slice y.1 gL.length y.2) gL]) jf ?_;refine S.imp (ax :=[cD (dr b8) 102 (.slice none (g_ x.2.2.2.1 0 0).length 0) (g_ x.2.2.2.1 0 0),cc aF 89 d aZ s L peer cg (W.erase p++gL) F' (n+gL.length),av ag.str 9 (.slice y.1 gL.length y.2) gL]) (fun m h=>by rw [K2];exact h) ?_;refine S.slot 6 (v' :=.slice none (g_ x.2.2.2.1 0 0).length 0) rfl (by rw [K2];rfl) ?_;refine S.region rfl<|O.op (.p rfl) (.fieldAddr nE rfl)<|O.op (.p rfl) (.loadAt dV rfl (h5.drop 3) rfl) ?_
  refine O.op (.p rfl) (.len rfl underlying25 rfl)<|O.q 1 rfl<|O.nil<|S.block<|S.jO (ι:=Nat) (dJ:=Option Addr × Nat) (fun i u=>i≤x.2.2.2.1.length) (fun i u=>[(73,.int .i64 (i:Int)),(6,.slice u.1 (g_ x.2.2.2.1 i 0).length u.2)]) [(7,_),(71,_),(72,_)] (fun i u=>[cD (dr b8) 102 (.slice u.1 (g_ x.2.2.2.1 i 0).length u.2) (g_ x.2.2.2.1 i 0),cc aF 89 d aZ s L peer cg (W.erase p++gL) F' (n+gL.length),av ag.str 9 (.slice y.1 gL.length y.2) gL]) (fun i u=>x.2.2.2.1.length - i) (0) ((none,0)) bL (.cons rfl (.cons rfl (.nil))) (.cons rfl (.cons rfl (.cons rfl (.nil)))) rfl fun i u hx ih=>?_;have bh:=cH (g:=g);refine S.seq<|S.region rfl<|O.op (.p rfl) (.lss rfl rfl)<|O.nil (S.seq ?_)
  first|refine S.cm rfl (fun Dm=>?_) (fun Dm=>?_)|refine S.b_ rfl (fun Dm=>?_) (fun Dm=>?_)
  ·have hi:i<x.2.2.2.1.length:=by omega
   have DW:=hx2.2 _ (List.getElem_mem hi);have hlo:=ue.1 (hok.1.1 _ (List.getElem_mem hi));have hro:=q9 hlo.2.2.1.1;refine S.skip<|S.seq<|S.block<|S.seq<|S.region rfl<|O.bR (.p rfl) underlying25 cQ rfl rfl (show _=(((i):Nat):Int) by omega) (bk) (h:=fun aba Y7 Eg Rb=>?_);obtain ⟨l1,m1,rfl,l2,l3⟩:=bP.sh Rb;have l3:=l3;refine O.op (.p rfl) (.bE isAgg31 aa rfl Eg) ?_;refine O.aN (.p rfl) (.alloc (cs:=[.string ⟨#[]⟩,.slice none 0 0]) zeroValue31 rfl) ?_;rintro _ _ ⟨nt,rfl,rfl⟩;refine O.bB rfl (.c9 aa rfl rfl rfl rfl ai aX) ?_;refine O.nil<|S.seq<|S.dx (b:=nt) (cs' :=[.string (str x.2.2.2.1[i].1),.slice l1 x.2.2.2.1[i].2.1.length m1]) ai rfl ?_;refine S.de ai fun g hs hm h12=>?_;replace hg:=Fr.aI hg hs;replace hR:=bu hR hm
   try replace hT:=hT.mono hs
   try replace h0:=h0.mono hs
   try replace k1:=k1.mono hs
   try replace k2:=k2.mono hs
   try replace bk:=bk.mono hs
   try replace h5:=h5.mono hs
   try replace Eg:=Eg.mono hs
   try replace l3:=l3.mono hs
   replace bh:=dQ bh hm;clear hs hm;refine S.region rfl<|O.op (.p rfl) (.fieldAddr eA rfl)<|O.op (.p rfl) (.loadAt dO rfl (h12.drop 1) rfl) ?_;refine O.op (.p rfl) (.len rfl underlying22 rfl)<|O.q 1 rfl<|O.nil<|S.block<|S.jO (ι:=Nat) (dJ:=Option Addr × Nat) (fun k o=>k≤x.2.2.2.1[i].2.1.length) (fun k o=>[(80,.int .i64 (k:Int)),(6,.slice o.1 (g_ x.2.2.2.1 i k).length o.2)]) [(7,_),(71,_),(72,_),(73,_),(78,_),(79,_)] (fun k o=>[cD (dr b8) 102 (.slice o.1 (g_ x.2.2.2.1 i k).length o.2) (g_ x.2.2.2.1 i k),cc aF 89 d aZ s L peer cg (W.erase p++gL) F' (n+gL.length),av ag.str 9 (.slice y.1 gL.length y.2) gL]) (fun k o=>x.2.2.2.1[i].2.1.length - k) (0) (u) bL (.cons rfl (.cons rfl (.nil))) (.cons rfl (.cons rfl (.cons rfl (.cons rfl (.cons rfl (.cons rfl (.nil))))))) rfl fun k o hx ih=>?_;have hm2:=cH (g:=g);refine S.seq<|S.region rfl<|O.op (.p rfl) (.lss rfl rfl)<|O.nil (S.seq ?_)
   first|refine S.cm rfl (fun Dp=>?_) (fun Dp=>?_)|refine S.b_ rfl (fun Dp=>?_) (fun Dp=>?_)
   ·have hk:k<x.2.2.2.1[i].2.1.length:=by omega
    have xL:=hro _ (List.getElem_mem hk);have aab:=VS xL;have hrl:=VX (i:=i) (k:=k) hx2.1 hx2.2;have eW:=VW hi hk;refine S.skip<|S.seq<|S.block<|S.seq<|S.region rfl<|O.bR (.p rfl) underlying22 mz rfl rfl (show _=(((k):Nat):Int) by omega) (l3) (h:=fun abb Y8 QO Rc=>?_);obtain ⟨a3,a5,a6,c3,dS,dH,rfl,o0,o1,o2,k6,mh,mi⟩:=cv.sh Rc;refine O.op (.p rfl) (.bE isAgg102 aa rfl QO) ?_;refine O.aN (.p rfl) (.alloc (cs:=[.string ⟨#[]⟩,.int .i64 0,.int .i64 0,.slice none 0 0,.bool false,.slice none 0 0,.slice none 0 0]) zeroValue102 rfl) ?_;rintro _ _ ⟨G3,rfl,rfl⟩;refine O.bB rfl (.c9 aa rfl rfl rfl rfl ai aX) ?_;refine O.nil (S.seq ?_);generalize x.2.2.2.1[i].2.1[k]=v at *;refine S.dx (b:=G3) (cs' :=uw v (.slice a3 v.2.2.2.1.length c3) (.slice a5 v.2.2.2.2.2.1.length dS) (.slice a6 v.2.2.2.2.2.2.1.length dH)) ai rfl ?_
    refine S.FN (L:=[0,3,6,1,2,4,5,7,9,8,10,11,12,13,14]) (fun (t:(Option Addr × Nat) × (Option Addr × Nat) × (Option Addr × Nat))=>[]) [(6,_),(7,_),(14,_),(71,_),(72,_),(73,_),(78,_),(79,_),(80,_)] (fun (t:(Option Addr × Nat) × (Option Addr × Nat) × (Option Addr × Nat))=>[obj G3 102 (uw v (.slice t.1.1 v.2.2.2.1.length t.1.2) (.slice t.2.1.1 v.2.2.2.2.2.1.length t.2.1.2) (.slice t.2.2.1 v.2.2.2.2.2.2.1.length t.2.2.2)),av c_ 191 (.slice t.1.1 v.2.2.2.1.length t.1.2) v.2.2.2.1,av ag.u8 5 (.slice t.2.1.1 v.2.2.2.2.2.1.length t.2.1.2) v.2.2.2.2.2.1,av ag.u8 5 (.slice t.2.2.1 v.2.2.2.2.2.2.1.length t.2.2.2) v.2.2.2.2.2.2.1,cD (dr b8) 102 (.slice o.1 (g_ x.2.2.2.1 i k).length o.2) (g_ x.2.2.2.1 i k),cc aF 89 d aZ s L peer cg (W.erase p++gL) F' (n+gL.length),av ag.str 9 (.slice y.1 gL.length y.2) gL]) (.cons rfl (.cons rfl (.cons rfl (.cons rfl (.cons rfl (.cons rfl (.cons rfl (.cons rfl (.cons rfl (.nil)))))))))) bz aa (fun kk key=>?_) (fun t=>?_)
    ·refine .quiet (.p rfl) rfl (fun _=>.aH fF rfl)<|.quiet (.p rfl) rfl (fun _=>.aH gj rfl)<|.quiet (.p rfl) rfl (fun _=>.aH iS rfl)<|af.B6 1 4 7 [2,4,5,7,9,8,10,11,12,13,14] [1,2,5,7,9,8,10,11,12,13,14] [1,2,4,5,9,8,10,11,12,13,14] aa rfl rfl rfl ?_ ?_ ?_
     ·refine bT.cC (.p rfl) aa (fun _=>.cV eU aK ai aK) ?_
      refine af.B6 2 4 7 [4,5,7,9,8,10,11,12,13,14] [2,5,7,9,8,10,11,12,13,14] [2,4,5,9,8,10,11,12,13,14] aa rfl rfl rfl ?_ ?_ ?_
      ·refine bT.aC (.p rfl) aa rfl aa rfl rfl ((oV k6 ah)) ?_
       rintro _ _ ⟨gM,gP,rfl,rfl⟩
       try simp only [an,aq,au]
       refine af.e4 4 7 [5,7,9,8,10,11,12,13,14] [4,5,9,8,10,11,12,13,14] aa rfl rfl ?_ ?_
       ·refine bT.cC (.p rfl) aa (fun _=>.cV bl aK ai aK) ?_
        refine af.e4 5 7 [7,9,8,10,11,12,13,14] [5,9,8,10,11,12,13,14] aa rfl rfl ?_ ?_
        ·refine bT.aC (.p rfl) aa rfl aa rfl rfl ((eG mh ah)) ?_
         rintro _ _ ⟨fS,fV,rfl,rfl⟩
         try simp only [an,aq,au]
         refine af.cC (.p rfl) aa (fun _=>.cV bl aK ai aK) ?_;refine .quiet (.p rfl) rfl (fun _=>.aH fF rfl)<|af.aC (.p rfl) aa rfl aa rfl rfl ((eG mi ah)) ?_;rintro _ _ ⟨fT,fW,rfl,rfl⟩
         try simp only [an,aq,au]
         refine af.bp rfl aa eU rfl rfl bt ai aX ?_;refine .quiet (.p rfl) rfl (fun _=>.aH gj rfl)<|af.bp rfl aa bl rfl rfl bt ai aX ?_;refine .quiet (.p rfl) rfl (fun _=>.aH iS rfl)<|af.bp rfl aa bl rfl rfl bt ai aX ?_;refine aJ.nil<|S.pk ?_ (S.weaken (Sub.app (.nil) (.cons rfl (.cons rfl (.cons rfl (.cons rfl (.cons rfl (.cons rfl (.cons rfl (.cons rfl (.cons rfl (.nil))))))))))) (key ((gM,gP),(fS,fV),(fT,fW))))
         try dsimp only
         repeat (first|exact aS|exact aU|(apply aT;focus (repeat (first|exact aR|apply zt)))|apply aV)
        ·refine bT.cC (.p rfl) aa (fun _=>.cV bl aK ai aK) ?_
         refine .swap [9,5,8,10,11,12,13,14] aa ?_;refine .quiet (.p rfl) rfl (fun _=>.aH fF rfl)<|af.aC (.p rfl) aa rfl aa rfl rfl ((eG mh ah)) ?_;rintro _ _ ⟨fS,fV,rfl,rfl⟩
         try simp only [an,aq,au]
         refine af.aC (.p rfl) aa rfl aa rfl rfl ((eG mi ah)) ?_;rintro _ _ ⟨fT,fW,rfl,rfl⟩
         try simp only [an,aq,au]
         refine af.bp rfl aa eU rfl rfl bt ai aX ?_;refine .quiet (.p rfl) rfl (fun _=>.aH gj rfl)<|af.bp rfl aa bl rfl rfl bt ai aX ?_;refine .quiet (.p rfl) rfl (fun _=>.aH iS rfl)<|af.bp rfl aa bl rfl rfl bt ai aX ?_;refine aJ.nil<|S.pk ?_ (S.weaken (Sub.app (.nil) (.cons rfl (.cons rfl (.cons rfl (.cons rfl (.cons rfl (.cons rfl (.cons rfl (.cons rfl (.cons rfl (.nil))))))))))) (key ((gM,gP),(fS,fV),(fT,fW))))
         try dsimp only
         repeat (first|exact aS|exact aU|(apply aT;focus (repeat (first|exact aR|apply zt)))|apply aV)
       ·refine bT.cC (.p rfl) aa (fun _=>.cV bl aK ai aK) ?_
        refine .swap [4,9,5,8,10,11,12,13,14] aa ?_;refine af.cC (.p rfl) aa (fun _=>.cV bl aK ai aK) ?_;refine .quiet (.p rfl) rfl (fun _=>.aH fF rfl)<|af.aC (.p rfl) aa rfl aa rfl rfl ((eG mh ah)) ?_;rintro _ _ ⟨fS,fV,rfl,rfl⟩
        try simp only [an,aq,au]
        refine af.aC (.p rfl) aa rfl aa rfl rfl ((eG mi ah)) ?_;rintro _ _ ⟨fT,fW,rfl,rfl⟩
        try simp only [an,aq,au]
        refine af.bp rfl aa eU rfl rfl bt ai aX ?_;refine .quiet (.p rfl) rfl (fun _=>.aH gj rfl)<|af.bp rfl aa bl rfl rfl bt ai aX ?_;refine .quiet (.p rfl) rfl (fun _=>.aH iS rfl)<|af.bp rfl aa bl rfl rfl bt ai aX ?_;refine aJ.nil<|S.pk ?_ (S.weaken (Sub.app (.nil) (.cons rfl (.cons rfl (.cons rfl (.cons rfl (.cons rfl (.cons rfl (.cons rfl (.cons rfl (.cons rfl (.nil))))))))))) (key ((gM,gP),(fS,fV),(fT,fW))))
        try dsimp only
        repeat (first|exact aS|exact aU|(apply aT;focus (repeat (first|exact aR|apply zt)))|apply aV)
      ·refine bT.cC (.p rfl) aa (fun _=>.cV bl aK ai aK) ?_
       refine af.e4 2 7 [5,7,9,8,10,11,12,13,14] [2,5,9,8,10,11,12,13,14] aa rfl rfl ?_ ?_
       ·refine bT.aC (.p rfl) aa rfl aa rfl rfl ((oV k6 ah)) ?_
        rintro _ _ ⟨gM,gP,rfl,rfl⟩
        try simp only [an,aq,au]
        refine af.e4 5 7 [7,9,8,10,11,12,13,14] [5,9,8,10,11,12,13,14] aa rfl rfl ?_ ?_
        ·refine bT.aC (.p rfl) aa rfl aa rfl rfl ((eG mh ah)) ?_
         rintro _ _ ⟨fS,fV,rfl,rfl⟩
         try simp only [an,aq,au]
         refine af.cC (.p rfl) aa (fun _=>.cV bl aK ai aK) ?_;refine .quiet (.p rfl) rfl (fun _=>.aH fF rfl)<|af.aC (.p rfl) aa rfl aa rfl rfl ((eG mi ah)) ?_;rintro _ _ ⟨fT,fW,rfl,rfl⟩
         try simp only [an,aq,au]
         refine af.bp rfl aa eU rfl rfl bt ai aX ?_;refine .quiet (.p rfl) rfl (fun _=>.aH gj rfl)<|af.bp rfl aa bl rfl rfl bt ai aX ?_;refine .quiet (.p rfl) rfl (fun _=>.aH iS rfl)<|af.bp rfl aa bl rfl rfl bt ai aX ?_;refine aJ.nil<|S.pk ?_ (S.weaken (Sub.app (.nil) (.cons rfl (.cons rfl (.cons rfl (.cons rfl (.cons rfl (.cons rfl (.cons rfl (.cons rfl (.cons rfl (.nil))))))))))) (key ((gM,gP),(fS,fV),(fT,fW))))
         try dsimp only
         repeat (first|exact aS|exact aU|(apply aT;focus (repeat (first|exact aR|apply zt)))|apply aV)
        ·refine bT.cC (.p rfl) aa (fun _=>.cV bl aK ai aK) ?_
         refine .swap [9,5,8,10,11,12,13,14] aa ?_;refine .quiet (.p rfl) rfl (fun _=>.aH fF rfl)<|af.aC (.p rfl) aa rfl aa rfl rfl ((eG mh ah)) ?_;rintro _ _ ⟨fS,fV,rfl,rfl⟩
         try simp only [an,aq,au]
         refine af.aC (.p rfl) aa rfl aa rfl rfl ((eG mi ah)) ?_;rintro _ _ ⟨fT,fW,rfl,rfl⟩
         try simp only [an,aq,au]
         refine af.bp rfl aa eU rfl rfl bt ai aX ?_;refine .quiet (.p rfl) rfl (fun _=>.aH gj rfl)<|af.bp rfl aa bl rfl rfl bt ai aX ?_;refine .quiet (.p rfl) rfl (fun _=>.aH iS rfl)<|af.bp rfl aa bl rfl rfl bt ai aX ?_;refine aJ.nil<|S.pk ?_ (S.weaken (Sub.app (.nil) (.cons rfl (.cons rfl (.cons rfl (.cons rfl (.cons rfl (.cons rfl (.cons rfl (.cons rfl (.cons rfl (.nil))))))))))) (key ((gM,gP),(fS,fV),(fT,fW))))
         try dsimp only
         repeat (first|exact aS|exact aU|(apply aT;focus (repeat (first|exact aR|apply zt)))|apply aV)
       ·refine bT.cC (.p rfl) aa (fun _=>.cV bl aK ai aK) ?_
        refine .swap [2,9,5,8,10,11,12,13,14] aa ?_;refine af.aC (.p rfl) aa rfl aa rfl rfl ((oV k6 ah)) ?_;rintro _ _ ⟨gM,gP,rfl,rfl⟩
        try simp only [an,aq,au]
        refine .quiet (.p rfl) rfl (fun _=>.aH fF rfl)<|af.aC (.p rfl) aa rfl aa rfl rfl ((eG mh ah)) ?_;rintro _ _ ⟨fS,fV,rfl,rfl⟩
        try simp only [an,aq,au]
        refine af.aC (.p rfl) aa rfl aa rfl rfl ((eG mi ah)) ?_;rintro _ _ ⟨fT,fW,rfl,rfl⟩
        try simp only [an,aq,au]
        refine af.bp rfl aa eU rfl rfl bt ai aX ?_;refine .quiet (.p rfl) rfl (fun _=>.aH gj rfl)<|af.bp rfl aa bl rfl rfl bt ai aX ?_;refine .quiet (.p rfl) rfl (fun _=>.aH iS rfl)<|af.bp rfl aa bl rfl rfl bt ai aX ?_;refine aJ.nil<|S.pk ?_ (S.weaken (Sub.app (.nil) (.cons rfl (.cons rfl (.cons rfl (.cons rfl (.cons rfl (.cons rfl (.cons rfl (.cons rfl (.cons rfl (.nil))))))))))) (key ((gM,gP),(fS,fV),(fT,fW))))
        try dsimp only
        repeat (first|exact aS|exact aU|(apply aT;focus (repeat (first|exact aR|apply zt)))|apply aV)
      ·refine bT.cC (.p rfl) aa (fun _=>.cV bl aK ai aK) ?_
       refine .swap [2,4,9,5,8,10,11,12,13,14] aa ?_;refine af.e4 2 4 [4,9,5,8,10,11,12,13,14] [2,9,5,8,10,11,12,13,14] aa rfl rfl ?_ ?_
       ·refine bT.aC (.p rfl) aa rfl aa rfl rfl ((oV k6 ah)) ?_
        rintro _ _ ⟨gM,gP,rfl,rfl⟩
        try simp only [an,aq,au]
        refine af.cC (.p rfl) aa (fun _=>.cV bl aK ai aK) ?_;refine .quiet (.p rfl) rfl (fun _=>.aH fF rfl)<|af.aC (.p rfl) aa rfl aa rfl rfl ((eG mh ah)) ?_;rintro _ _ ⟨fS,fV,rfl,rfl⟩
        try simp only [an,aq,au]
        refine af.aC (.p rfl) aa rfl aa rfl rfl ((eG mi ah)) ?_;rintro _ _ ⟨fT,fW,rfl,rfl⟩
        try simp only [an,aq,au]
        refine af.bp rfl aa eU rfl rfl bt ai aX ?_;refine .quiet (.p rfl) rfl (fun _=>.aH gj rfl)<|af.bp rfl aa bl rfl rfl bt ai aX ?_;refine .quiet (.p rfl) rfl (fun _=>.aH iS rfl)<|af.bp rfl aa bl rfl rfl bt ai aX ?_;refine aJ.nil<|S.pk ?_ (S.weaken (Sub.app (.nil) (.cons rfl (.cons rfl (.cons rfl (.cons rfl (.cons rfl (.cons rfl (.cons rfl (.cons rfl (.cons rfl (.nil))))))))))) (key ((gM,gP),(fS,fV),(fT,fW))))
        try dsimp only
        repeat (first|exact aS|exact aU|(apply aT;focus (repeat (first|exact aR|apply zt)))|apply aV)
       ·refine bT.cC (.p rfl) aa (fun _=>.cV bl aK ai aK) ?_
        refine af.aC (.p rfl) aa rfl aa rfl rfl ((oV k6 ah)) ?_;rintro _ _ ⟨gM,gP,rfl,rfl⟩
        try simp only [an,aq,au]
        refine .quiet (.p rfl) rfl (fun _=>.aH fF rfl)<|af.aC (.p rfl) aa rfl aa rfl rfl ((eG mh ah)) ?_;rintro _ _ ⟨fS,fV,rfl,rfl⟩
        try simp only [an,aq,au]
        refine af.aC (.p rfl) aa rfl aa rfl rfl ((eG mi ah)) ?_;rintro _ _ ⟨fT,fW,rfl,rfl⟩
        try simp only [an,aq,au]
        refine af.bp rfl aa eU rfl rfl bt ai aX ?_;refine .quiet (.p rfl) rfl (fun _=>.aH gj rfl)<|af.bp rfl aa bl rfl rfl bt ai aX ?_;refine .quiet (.p rfl) rfl (fun _=>.aH iS rfl)<|af.bp rfl aa bl rfl rfl bt ai aX ?_;refine aJ.nil<|S.pk ?_ (S.weaken (Sub.app (.nil) (.cons rfl (.cons rfl (.cons rfl (.cons rfl (.cons rfl (.cons rfl (.cons rfl (.cons rfl (.cons rfl (.nil))))))))))) (key ((gM,gP),(fS,fV),(fT,fW))))
        try dsimp only
        repeat (first|exact aS|exact aU|(apply aT;focus (repeat (first|exact aR|apply zt)))|apply aV)
     ·refine bT.cC (.p rfl) aa (fun _=>.cV bl aK ai aK) ?_
      refine af.e4 1 7 [2,5,7,9,8,10,11,12,13,14] [1,2,5,9,8,10,11,12,13,14] aa rfl rfl ?_ ?_
      ·refine bT.cC (.p rfl) aa (fun _=>.cV eU aK ai aK) ?_
       refine af.e4 2 7 [5,7,9,8,10,11,12,13,14] [2,5,9,8,10,11,12,13,14] aa rfl rfl ?_ ?_
       ·refine bT.aC (.p rfl) aa rfl aa rfl rfl ((oV k6 ah)) ?_
        rintro _ _ ⟨gM,gP,rfl,rfl⟩
        try simp only [an,aq,au]
        refine af.e4 5 7 [7,9,8,10,11,12,13,14] [5,9,8,10,11,12,13,14] aa rfl rfl ?_ ?_
        ·refine bT.aC (.p rfl) aa rfl aa rfl rfl ((eG mh ah)) ?_
         rintro _ _ ⟨fS,fV,rfl,rfl⟩
         try simp only [an,aq,au]
         refine af.cC (.p rfl) aa (fun _=>.cV bl aK ai aK) ?_;refine .quiet (.p rfl) rfl (fun _=>.aH fF rfl)<|af.aC (.p rfl) aa rfl aa rfl rfl ((eG mi ah)) ?_;rintro _ _ ⟨fT,fW,rfl,rfl⟩
         try simp only [an,aq,au]
         refine af.bp rfl aa eU rfl rfl bt ai aX ?_;refine .quiet (.p rfl) rfl (fun _=>.aH gj rfl)<|af.bp rfl aa bl rfl rfl bt ai aX ?_;refine .quiet (.p rfl) rfl (fun _=>.aH iS rfl)<|af.bp rfl aa bl rfl rfl bt ai aX ?_;refine aJ.nil<|S.pk ?_ (S.weaken (Sub.app (.nil) (.cons rfl (.cons rfl (.cons rfl (.cons rfl (.cons rfl (.cons rfl (.cons rfl (.cons rfl (.cons rfl (.nil))))))))))) (key ((gM,gP),(fS,fV),(fT,fW))))
         try dsimp only
         repeat (first|exact aS|exact aU|(apply aT;focus (repeat (first|exact aR|apply zt)))|apply aV)
        ·refine bT.cC (.p rfl) aa (fun _=>.cV bl aK ai aK) ?_
         refine .swap [9,5,8,10,11,12,13,14] aa ?_;refine .quiet (.p rfl) rfl (fun _=>.aH fF rfl)<|af.aC (.p rfl) aa rfl aa rfl rfl ((eG mh ah)) ?_;rintro _ _ ⟨fS,fV,rfl,rfl⟩
         try simp only [an,aq,au]
         refine af.aC (.p rfl) aa rfl aa rfl rfl ((eG mi ah)) ?_;rintro _ _ ⟨fT,fW,rfl,rfl⟩
         try simp only [an,aq,au]
         refine af.bp rfl aa eU rfl rfl bt ai aX ?_;refine .quiet (.p rfl) rfl (fun _=>.aH gj rfl)<|af.bp rfl aa bl rfl rfl bt ai aX ?_;refine .quiet (.p rfl) rfl (fun _=>.aH iS rfl)<|af.bp rfl aa bl rfl rfl bt ai aX ?_;refine aJ.nil<|S.pk ?_ (S.weaken (Sub.app (.nil) (.cons rfl (.cons rfl (.cons rfl (.cons rfl (.cons rfl (.cons rfl (.cons rfl (.cons rfl (.cons rfl (.nil))))))))))) (key ((gM,gP),(fS,fV),(fT,fW))))
         try dsimp only
         repeat (first|exact aS|exact aU|(apply aT;focus (repeat (first|exact aR|apply zt)))|apply aV)
       ·refine bT.cC (.p rfl) aa (fun _=>.cV bl aK ai aK) ?_
        refine .swap [2,9,5,8,10,11,12,13,14] aa ?_;refine af.aC (.p rfl) aa rfl aa rfl rfl ((oV k6 ah)) ?_;rintro _ _ ⟨gM,gP,rfl,rfl⟩
        try simp only [an,aq,au]
        refine .quiet (.p rfl) rfl (fun _=>.aH fF rfl)<|af.aC (.p rfl) aa rfl aa rfl rfl ((eG mh ah)) ?_;rintro _ _ ⟨fS,fV,rfl,rfl⟩
        try simp only [an,aq,au]
        refine af.aC (.p rfl) aa rfl aa rfl rfl ((eG mi ah)) ?_;rintro _ _ ⟨fT,fW,rfl,rfl⟩
        try simp only [an,aq,au]
        refine af.bp rfl aa eU rfl rfl bt ai aX ?_;refine .quiet (.p rfl) rfl (fun _=>.aH gj rfl)<|af.bp rfl aa bl rfl rfl bt ai aX ?_;refine .quiet (.p rfl) rfl (fun _=>.aH iS rfl)<|af.bp rfl aa bl rfl rfl bt ai aX ?_;refine aJ.nil<|S.pk ?_ (S.weaken (Sub.app (.nil) (.cons rfl (.cons rfl (.cons rfl (.cons rfl (.cons rfl (.cons rfl (.cons rfl (.cons rfl (.cons rfl (.nil))))))))))) (key ((gM,gP),(fS,fV),(fT,fW))))
        try dsimp only
        repeat (first|exact aS|exact aU|(apply aT;focus (repeat (first|exact aR|apply zt)))|apply aV)
      ·refine bT.cC (.p rfl) aa (fun _=>.cV bl aK ai aK) ?_
       refine .swap [1,2,9,5,8,10,11,12,13,14] aa ?_;refine af.cC (.p rfl) aa (fun _=>.cV eU aK ai aK) ?_;refine af.aC (.p rfl) aa rfl aa rfl rfl ((oV k6 ah)) ?_;rintro _ _ ⟨gM,gP,rfl,rfl⟩
       try simp only [an,aq,au]
       refine .quiet (.p rfl) rfl (fun _=>.aH fF rfl)<|af.aC (.p rfl) aa rfl aa rfl rfl ((eG mh ah)) ?_;rintro _ _ ⟨fS,fV,rfl,rfl⟩
       try simp only [an,aq,au]
       refine af.aC (.p rfl) aa rfl aa rfl rfl ((eG mi ah)) ?_;rintro _ _ ⟨fT,fW,rfl,rfl⟩
       try simp only [an,aq,au]
       refine af.bp rfl aa eU rfl rfl bt ai aX ?_;refine .quiet (.p rfl) rfl (fun _=>.aH gj rfl)<|af.bp rfl aa bl rfl rfl bt ai aX ?_;refine .quiet (.p rfl) rfl (fun _=>.aH iS rfl)<|af.bp rfl aa bl rfl rfl bt ai aX ?_;refine aJ.nil<|S.pk ?_ (S.weaken (Sub.app (.nil) (.cons rfl (.cons rfl (.cons rfl (.cons rfl (.cons rfl (.cons rfl (.cons rfl (.cons rfl (.cons rfl (.nil))))))))))) (key ((gM,gP),(fS,fV),(fT,fW))))
       try dsimp only
       repeat (first|exact aS|exact aU|(apply aT;focus (repeat (first|exact aR|apply zt)))|apply aV)
     ·refine bT.cC (.p rfl) aa (fun _=>.cV bl aK ai aK) ?_
      refine .swap [1,2,4,9,5,8,10,11,12,13,14] aa ?_;refine af.e4 1 4 [2,4,9,5,8,10,11,12,13,14] [1,2,9,5,8,10,11,12,13,14] aa rfl rfl ?_ ?_
      ·refine bT.cC (.p rfl) aa (fun _=>.cV eU aK ai aK) ?_
       refine af.e4 2 4 [4,9,5,8,10,11,12,13,14] [2,9,5,8,10,11,12,13,14] aa rfl rfl ?_ ?_
       ·refine bT.aC (.p rfl) aa rfl aa rfl rfl ((oV k6 ah)) ?_
        rintro _ _ ⟨gM,gP,rfl,rfl⟩
        try simp only [an,aq,au]
        refine af.cC (.p rfl) aa (fun _=>.cV bl aK ai aK) ?_;refine .quiet (.p rfl) rfl (fun _=>.aH fF rfl)<|af.aC (.p rfl) aa rfl aa rfl rfl ((eG mh ah)) ?_;rintro _ _ ⟨fS,fV,rfl,rfl⟩
        try simp only [an,aq,au]
        refine af.aC (.p rfl) aa rfl aa rfl rfl ((eG mi ah)) ?_;rintro _ _ ⟨fT,fW,rfl,rfl⟩
        try simp only [an,aq,au]
        refine af.bp rfl aa eU rfl rfl bt ai aX ?_;refine .quiet (.p rfl) rfl (fun _=>.aH gj rfl)<|af.bp rfl aa bl rfl rfl bt ai aX ?_;refine .quiet (.p rfl) rfl (fun _=>.aH iS rfl)<|af.bp rfl aa bl rfl rfl bt ai aX ?_;refine aJ.nil<|S.pk ?_ (S.weaken (Sub.app (.nil) (.cons rfl (.cons rfl (.cons rfl (.cons rfl (.cons rfl (.cons rfl (.cons rfl (.cons rfl (.cons rfl (.nil))))))))))) (key ((gM,gP),(fS,fV),(fT,fW))))
        try dsimp only
        repeat (first|exact aS|exact aU|(apply aT;focus (repeat (first|exact aR|apply zt)))|apply aV)
       ·refine bT.cC (.p rfl) aa (fun _=>.cV bl aK ai aK) ?_
        refine af.aC (.p rfl) aa rfl aa rfl rfl ((oV k6 ah)) ?_;rintro _ _ ⟨gM,gP,rfl,rfl⟩
        try simp only [an,aq,au]
        refine .quiet (.p rfl) rfl (fun _=>.aH fF rfl)<|af.aC (.p rfl) aa rfl aa rfl rfl ((eG mh ah)) ?_;rintro _ _ ⟨fS,fV,rfl,rfl⟩
        try simp only [an,aq,au]
        refine af.aC (.p rfl) aa rfl aa rfl rfl ((eG mi ah)) ?_;rintro _ _ ⟨fT,fW,rfl,rfl⟩
        try simp only [an,aq,au]
        refine af.bp rfl aa eU rfl rfl bt ai aX ?_;refine .quiet (.p rfl) rfl (fun _=>.aH gj rfl)<|af.bp rfl aa bl rfl rfl bt ai aX ?_;refine .quiet (.p rfl) rfl (fun _=>.aH iS rfl)<|af.bp rfl aa bl rfl rfl bt ai aX ?_;refine aJ.nil<|S.pk ?_ (S.weaken (Sub.app (.nil) (.cons rfl (.cons rfl (.cons rfl (.cons rfl (.cons rfl (.cons rfl (.cons rfl (.cons rfl (.cons rfl (.nil))))))))))) (key ((gM,gP),(fS,fV),(fT,fW))))
        try dsimp only
        repeat (first|exact aS|exact aU|(apply aT;focus (repeat (first|exact aR|apply zt)))|apply aV)
      ·refine bT.cC (.p rfl) aa (fun _=>.cV bl aK ai aK) ?_
       refine af.cC (.p rfl) aa (fun _=>.cV eU aK ai aK) ?_;refine af.aC (.p rfl) aa rfl aa rfl rfl ((oV k6 ah)) ?_;rintro _ _ ⟨gM,gP,rfl,rfl⟩
       try simp only [an,aq,au]
       refine .quiet (.p rfl) rfl (fun _=>.aH fF rfl)<|af.aC (.p rfl) aa rfl aa rfl rfl ((eG mh ah)) ?_;rintro _ _ ⟨fS,fV,rfl,rfl⟩
       try simp only [an,aq,au]
       refine af.aC (.p rfl) aa rfl aa rfl rfl ((eG mi ah)) ?_;rintro _ _ ⟨fT,fW,rfl,rfl⟩
       try simp only [an,aq,au]
       refine af.bp rfl aa eU rfl rfl bt ai aX ?_;refine .quiet (.p rfl) rfl (fun _=>.aH gj rfl)<|af.bp rfl aa bl rfl rfl bt ai aX ?_;refine .quiet (.p rfl) rfl (fun _=>.aH iS rfl)<|af.bp rfl aa bl rfl rfl bt ai aX ?_;refine aJ.nil<|S.pk ?_ (S.weaken (Sub.app (.nil) (.cons rfl (.cons rfl (.cons rfl (.cons rfl (.cons rfl (.cons rfl (.cons rfl (.cons rfl (.cons rfl (.nil))))))))))) (key ((gM,gP),(fS,fV),(fT,fW))))
       try dsimp only
       repeat (first|exact aS|exact aU|(apply aT;focus (repeat (first|exact aR|apply zt)))|apply aV)
    refine S.ug (G:=dr b8) (k' :=7) rfl ai fun ak ec=>?_;rw [← ec];refine S.region rfl<|O.q 1 rfl<|O.op (.p rfl) (.gZ (news:=[_,_,_,_,_,_,_]) isAgg102) ?_;refine O.aN (.p rfl) (.cA (T:=(ag.cells 7)) (ys:=[_]) underlying22 wS aB rfl rfl ⟨⟨rfl,rfl,by first|(simp;done)|(intro v hv;simp [Value.cells] at hv;rcases hv with rfl|rfl<;>rfl)|(refine List.forall_mem_cons.2 ⟨rfl,?_⟩;repeat (first|exact (fun _ h=>absurd h List.not_mem_nil)|refine List.forall_mem_cons.2 ⟨rfl,?_⟩))⟩,trivial⟩ aB) ?_;rintro _ _ ⟨YG,YR,rfl,rfl⟩;refine O.aN (.p rfl) (.gN (T:=(ag.cells 7)) underlying22 wS aB rfl rfl ai ai bD bD) ?_;rintro _ _ ⟨Mv,Ng,rfl,rfl⟩;refine O.q 1 rfl<|O.nil<|S.inBlock<|S.ct (A:=(dr b8).own (uw v (.slice t.1.1 v.2.2.2.1.length t.1.2) (.slice t.2.1.1 v.2.2.2.2.2.1.length t.2.1.2) (.slice t.2.2.1 v.2.2.2.2.2.2.1.length t.2.2.2)) v) (bs:=yp v (.slice t.1.1 v.2.2.2.1.length t.1.2) (.slice t.2.1.1 v.2.2.2.2.2.1.length t.2.1.2) (.slice t.2.2.1 v.2.2.2.2.2.2.1.length t.2.2.2)) aW (fun m h=>KX xL h) ?_;refine S.x5 (G:=dr b8) (k' :=7) rfl ai ai ai ?_;rw [eW];simp only [List.length_singleton];have hcs:ak.length+1=(g_ x.2.2.2.1 i (k+1)).length:=by rw [← eW,List.length_append,← ec];rfl
    rw [hcs];refine S.region rfl<|O.op (.p rfl) (.add rfl rfl (IntWalk.i64_in _ ah))<|O.q 1 rfl<|O.nil ?_;exact S.pw (ih (k+1) ((Mv,Ng)) ah ah)
   ·clear ih
    have hk:k=x.2.2.2.1[i].2.1.length:=by omega
    subst hk;rw [VY hi];refine S.exit rfl<|S.inBlock<|S.region rfl<|O.op (.p rfl) (.add rfl rfl (IntWalk.i64_in _ ah))<|O.q 1 rfl<|O.nil ?_;exact S.iA bh (S.pw (ih (i+1) (o) ah ah))
  ·clear ih
   have hi:i=x.2.2.2.1.length:=by omega
   subst hi;rw [VV];refine S.exit rfl<|S.seq<|S.region rfl<|O.q 5 rfl<|O.nil<|S.K4 results54 rfl rfl rfl fun w hw=>Holds.end_ hR hw ?_;exact pk ⟨u.1,u.2,y.1,y.2,rfl,rfl⟩
theorem UW {d:Fr} {aZ s:Nat} {L:List aD} {peer:Int} {cg:Bool} (F:List UInt8→List UInt8) {m:Fr} (h:Sat [fD d aZ s L peer cg] m):cc aF 89 d aZ s L peer cg [] F 0 m:=by
 obtain ⟨m1,_,_,s1,_,⟨bI,mp,hs0⟩,_⟩:=h;have hs:=Sat.mono s1 hs0;exact ⟨⟨Fr.emp,bI,mp,[],0,gE.nil,rfl,fun p v q=>by cases q⟩,Fr.emp,m,Fr.ea _,Fr.c6 _,Fr.bY _,rfl,hs⟩
theorem Wy {r d:Fr} {aZ s n:Nat} {L:List aD} {W:List (List UInt8)} {F:List UInt8→List UInt8} {cs:List Value} {x:jX} {sr:Value} {xs:List UInt8} (hT:fR r d s L) (hs4:s<4) (h:jh.rel r cs x) (hok:oF x=true) (h2:x.2.1=(s:Int)) (hn:aj ag.u8 r sr xs) (gl:xs.length=64) (h3:x.2.2.2.1=er (s:Int) xs) (hF:F []=xs) (hw:[] ∉ W) (hnn:n≤100000000) :
  ay prog 53 #[.pointer (some ⟨aZ,0,none⟩),.agg cs.toArray,sr] r [cc aF 89 d aZ s L x.1 false W F n] (aL fun u U=>∃ a c,u=.tuple #[.slice a (c7 L F [[]]).length c,.int .i64 0]∧U=[cc aF 89 d aZ s L x.1 true (W++c7 L F [[]]) F (n+(c7 L F [[]]).length),av ag.str 9 (.slice a (c7 L F [[]]).length c) (c7 L F [[]])]):=by
 have hpos:0<x.1:=by have:=(A8.1 (A7.1 hok).1).1;omega
 have ht:(er (s:Int) xs).length=64:=by unfold er;rw [if_pos ⟨by omega,by omega,gl⟩,qi]
 obtain ⟨a5,dS,rfl⟩:=hn.shape;obtain ⟨iH,sP,iI,sQ,rfl,k0,k1,k2,bk,sg⟩:=jh.sh h;refine ay.of (n:=54) _ rfl func53 rfl rfl rfl fun g hg R hR=>?_;have hT:=hT.mono hg;have h:=h.mono hg;have hn:=hn.mono hg;have bk:=bk.mono hg;refine S.open (bs:=fun z:kp W F=>iC aF 89 d z.k aZ z.bI z.mp s L x.1 false n z.M z.c) .here (fun m h=>cc.jc h) fun z=>?_;simp only [iC,List.cons_append,List.nil_append];refine S.seq<|S.region rfl<|O.aN (.p rfl) (.box (cs:=[_,_,_,_,_]) rfl rfl) ?_;rintro _ _ ⟨b4,rfl,rfl⟩;refine O.q 2 rfl<|O.nil<|S.seq<|S.block<|S.seq<|S.ep (A:=obj b4 81 [.int .i64 x.1,.int .i64 x.2.1,.int .i64 x.2.2.1,.slice iH x.2.2.2.1.length iI,.slice sP x.2.2.2.2.1.length sQ]) ai fun g hs hm ⟨_,x',s'⟩=>?_;have h4:=(fun s x=>(ga x).mono s) s' x';clear x' s';replace hg:=Fr.aI hg hs;replace hR:=bu hR hm
 try replace hT:=hT.mono hs
 try replace h:=h.mono hs
 try replace hn:=hn.mono hs
 try replace bk:=bk.mono hs
 clear hs hm;refine S.region rfl<|O.q 1 rfl<|O.bM (.p rfl) rfl aa rfl rfl ai (ri hpos) ?_;rintro _ _ ⟨rfl,rfl⟩
 try simp only [an,aq,au]
 refine O.sT 10 rfl aK ?_;refine O.op (.p rfl) (.not rfl)<|O.q 1 rfl<|O.nil<|S.aQ rfl<|S.seq<|S.region rfl<|O.q 1 rfl<|O.op (.p rfl) (.nilCheck rfl)<|O.op (.p rfl) (.aH qI rfl)<|O.op (.p rfl) (.lo iv) ?_;refine O.aM 16 rfl aK ?_;refine O.q 1 rfl<|O.nil<|S.aQ rfl<|S.seq<|S.seq<|S.region rfl<|O.op (.p rfl) (.bE isAgg81 aa rfl h4) ?_;refine O.aC (.p rfl) rfl aa rfl rfl ((F7 h)) ?_;rintro _ _ ⟨rfl,rfl⟩
 try simp only [an,aq,au]
 refine O.sT 19 rfl (by exact hok) ?_;refine O.op (.p rfl) (.not rfl)<|O.q 1 rfl<|O.nil<|S.aQ rfl<|S.seq<|S.bC (L:=[0,1,2,3,4,5,6,7]) bz aa ?_;refine .quiet (.p rfl) rfl (fun _=>.fieldAddr wY rfl)<|.quiet (.p rfl) rfl (fun _=>.loadAt cz rfl h4 rfl) ?_;refine af.q 1 rfl<|.quiet (.p rfl) rfl (fun _=>.nilCheck rfl)<|.quiet (.p rfl) rfl (fun _=>.aH zH rfl)<|af.cC (.p rfl) aa (fun _=>.cV cz aK ai aK) ?_;refine .quiet (.p rfl) rfl (fun _=>.neq rfl rfl)<|af.aM 27 rfl (by exact decide_eq_false (fun q=>q rfl)) ?_;refine af.q 1 rfl<|aJ.nil<|S.aQ rfl<|S.bC (L:=[0,1,2,3,4,5,6,7,8,9]) bz aa ?_;refine .quiet (.p rfl) rfl (fun _=>.fieldAddr vk rfl)<|.quiet (.p rfl) rfl (fun _=>.loadAt cz rfl (h4.drop 1) rfl) ?_;refine af.q 1 rfl<|.quiet (.p rfl) rfl (fun _=>.nilCheck rfl)<|.quiet (.p rfl) rfl (fun _=>.aH vl rfl)<|.quiet (.p rfl) rfl (fun _=>.aH wZ rfl)<|af.cC (.p rfl) aa (fun _=>.cV o6 aK ai aK) ?_;refine af.c4 (.p rfl) aa rfl aa rfl rfl (bs:=[aY aF d z.bI s L]) aW (fun m hm hd=>yB (aY.gY hT.hd hd hm)) ?_;rintro _ _ ⟨rfl,rfl⟩
 try simp only [an,aq,au]
 refine .quiet (.p rfl) rfl (fun _=>.neq rfl rfl)<|af.aM 36 rfl (by exact decide_eq_false ah) ?_;refine af.q 1 rfl<|aJ.nil<|S.aQ rfl<|S.seq<|S.bC (L:=[0,1,2,4,5,3,6,7,8]) bz aa<|.quiet (.p rfl) rfl (fun _=>.fieldAddr vk rfl)<|.quiet (.p rfl) rfl (fun _=>.loadAt cz rfl (h4.drop 1) rfl) ?_;refine af.q 1 rfl<|.quiet (.p rfl) rfl (fun _=>.fieldAddr CZ rfl)<|.quiet (.p rfl) rfl (fun _=>.loadAt bl rfl (h4.drop 3) rfl) ?_;refine af.aC (.p rfl) aa rfl aa rfl rfl ((Bk hn k1 hT.hH hT.hK ah)) ?_;rintro _ _ ⟨a41,wI,rfl,rfl⟩
 try simp only [an,aq,au]
 refine af.c4 (.p rfl) aa rfl aa rfl rfl (bs:=[av ag.u8 5 (.slice a41 (er x.2.1 xs).length wI) (er x.2.1 xs)]) aW (fun m hm hd=>oR ((Sat.arr hm).mono (Fr.dB hd)) (bk.mono (Fr.dh _ _))) ?_;rintro _ _ ⟨rfl,rfl⟩
 try simp only [an,aq,au]
 refine af.sT 44 rfl (by exact decide_eq_true (by rw [h3,h2])) ?_;refine .quiet (.p rfl) rfl (fun _=>.not rfl)<|af.q 1 rfl<|aJ.nil<|S.aQ rfl<|S.skip<|S.inBlock<|S.seq<|S.region rfl<|O.q 1 rfl<|O.op (.p rfl) (.nilCheck rfl)<|O.op (.p rfl) (.aH qI rfl)<|O.bB rfl (.bp iv rfl rfl bt ai aX) ?_;refine O.nil<|S.seq<|S.ct (A:=cc aF 89 d aZ s L x.1 true W F n) (bs:=iC aF 89 d z.k aZ z.bI z.mp s L x.1 true n z.M z.c) aW (fun m h=>cc.fold z h) ?_;refine S.region rfl<|O.q 2 rfl<|O.aN (.p rfl) (.cA (T:=ag.cells 1) (ys:=[[.slice a5 xs.length dS]]) underlying109 iu aB rfl rfl ⟨⟨rfl,rfl,by first|(simp;done)|(intro v hv;simp [Value.cells] at hv;rcases hv with rfl|rfl<;>rfl)|(refine List.forall_mem_cons.2 ⟨rfl,?_⟩;repeat (first|exact (fun _ h=>absurd h List.not_mem_nil)|refine List.forall_mem_cons.2 ⟨rfl,?_⟩))⟩,trivial⟩ aB) ?_;rintro _ _ ⟨a51,za,rfl,rfl⟩;refine O.fo ai fun g hs hm nH=>?_;replace hg:=Fr.aI hg hs;replace hR:=bu hR hm
 try replace hT:=hT.mono hs
 try replace h:=h.mono hs
 try replace hn:=hn.mono hs
 try replace bk:=bk.mono hs
 try replace h4:=h4.mono hs
 clear hs hm;refine O.aN (.p rfl) (.cA (T:=ag.str) (ys:=[[]]) underlying53 gv aB rfl rfl ⟨⟨rfl,by decide⟩,trivial⟩ aB) ?_;rintro _ _ ⟨ku,kz,rfl,rfl⟩;refine O.fo ai fun g hs hm qM=>?_;replace hg:=Fr.aI hg hs;replace hR:=bu hR hm
 try replace hT:=hT.mono hs
 try replace h:=h.mono hs
 try replace hn:=hn.mono hs
 try replace bk:=bk.mono hs
 try replace h4:=h4.mono hs
 try replace nH:=nH.mono hs
 clear hs hm;refine O.bM (.p rfl) rfl aa rfl rfl ai (Lc hT (aj.kL (T:=ag.slice ag.u8) (xs:=[xs]) nH (⟨⟨_,rfl,hn⟩,trivial⟩) rfl) qM (by rw [List.map_cons,hF];rfl) bL b9 bL (by simpa using hw) bL ah) ?_;rintro _ _ ⟨a53,u7,rfl,rfl⟩
 try simp only [an,aq,au]
 refine O.q 2 rfl<|O.nil<|S.mW results53 rfl rfl fun w hw=>Holds.end_ hR hw ?_;exact pk ⟨a53,u7,rfl,rfl⟩
theorem Wr {r d:Fr} {aZ s n:Nat} {L:List aD} {peer:Int} {cg:Bool} {W:List (List UInt8)} {F:List UInt8→List UInt8} (hp:0<peer):ay prog 55 #[.pointer (some ⟨aZ,0,none⟩)] r [cc aF 89 d aZ s L peer cg W F n] (aL fun v U=>v=.bool (cg && decide (W.length=0))∧U=[cc aF 89 d aZ s L peer cg W F n]):=by
 refine ay.of (n:=20) _ rfl func55 rfl rfl rfl fun g hg R hR=>?_;refine S.open (bs:=fun z:kp W F=>iC aF 89 d z.k aZ z.bI z.mp s L peer cg n z.M z.c) .here (fun m h=>cc.jc h) fun z=>?_;simp only [iC,List.cons_append,List.nil_append];have hl:=z.len
 cases cg with
 |false =>
  refine S.seq<|S.region rfl<|O.q 1 rfl<|O.nil<|S.seq<|S.region rfl<|O.q 1 rfl<|O.bM (.p rfl) rfl aa rfl rfl ai (ri hp) ?_;rintro _ _ ⟨rfl,rfl⟩
  try simp only [an,aq,au]
  refine O.sT 4 rfl aK ?_;refine O.q 2 rfl<|O.op (.g rfl rfl) (.nilCheck rfl)<|O.op (.g rfl rfl) (.aH qI rfl)<|O.op (.g rfl rfl) (.lo iv) ?_;refine O.aM 9 rfl aK ?_;refine O.q 11 rfl<|O.nil<|S.ct (A:=cc aF 89 d aZ s L peer false W F n) (bs:=iC aF 89 d z.k aZ z.bI z.mp s L peer false n z.M z.c) aW (fun m h=>cc.fold z h) ?_;exact S.rt results55 rfl hR ⟨rfl,rfl⟩
 |true =>
  refine S.seq<|S.region rfl<|O.q 1 rfl<|O.nil<|S.seq<|S.region rfl<|O.q 1 rfl<|O.bM (.p rfl) rfl aa rfl rfl ai (ri hp) ?_;rintro _ _ ⟨rfl,rfl⟩
  try simp only [an,aq,au]
  refine O.sT 4 rfl aK ?_;refine O.q 2 rfl<|O.op (.g rfl rfl) (.nilCheck rfl)<|O.op (.g rfl rfl) (.aH qI rfl)<|O.op (.g rfl rfl) (.lo iv) ?_;refine O.sT 9 rfl aK ?_;refine O.q 3 rfl<|O.op (.g rfl rfl) (.nilCheck rfl)<|O.op (.g rfl rfl) (.aH qH rfl)<|O.op (.g rfl rfl) (.aH w5 rfl)<|O.op (.g rfl rfl) (.lo lW) ?_;refine O.op (.g rfl rfl) (.JS (l:=z.M) underlying75 rfl ai) ?_;refine O.slot 17 (v' :=.int .i64 (W.length:Int)) rfl (by rw [hl]) ?_;refine O.op (.g rfl rfl) (.eql rfl rfl)<|O.q 2 rfl<|O.nil<|S.ct (A:=cc aF 89 d aZ s L peer true W F n) (bs:=iC aF 89 d z.k aZ z.bI z.mp s L peer true n z.M z.c) aW (fun m h=>cc.fold z h) ?_;exact S.rt results55 rfl hR ⟨congrArg Value.bool (by rw [Bool.true_and,Bool.eq_iff_iff,decide_eq_true_iff,decide_eq_true_iff];omega),rfl⟩
theorem Ld {r d:Fr} {aZ s n:Nat} {L:List aD} {peer:Int} {cg:Bool} {W:List (List UInt8)} {F:List UInt8→List UInt8} (hp:0<peer):ay prog 56 #[.pointer (some ⟨aZ,0,none⟩)] r [cc aF 89 d aZ s L peer cg W F n] (aL fun v U=>v=.int .i64 (n:Int)∧U=[cc aF 89 d aZ s L peer cg W F n]):=by
 refine ay.of (n:=11) _ rfl func56 rfl rfl rfl fun g hg R hR=>?_;refine S.open (bs:=fun z:kp W F=>iC aF 89 d z.k aZ z.bI z.mp s L peer cg n z.M z.c) .here (fun m h=>cc.jc h) fun z=>?_;simp only [iC,List.cons_append,List.nil_append];refine S.seq<|S.region rfl<|O.q 1 rfl<|O.nil<|S.seq<|S.seq<|S.region rfl<|O.q 1 rfl<|O.bM (.p rfl) rfl aa rfl rfl ai (ri hp) ?_;rintro _ _ ⟨rfl,rfl⟩
 try simp only [an,aq,au]
 refine O.sT 4 rfl aK ?_;refine O.op (.p rfl) (.not rfl)<|O.nil<|S.aQ rfl<|S.skip<|S.seq<|S.region rfl<|O.q 1 rfl<|O.op (.p rfl) (.nilCheck rfl)<|O.op (.p rfl) (.aH qH rfl)<|O.op (.p rfl) (.aH zG rfl)<|O.op (.p rfl) (.lo cz) ?_;refine O.q 1 rfl<|O.nil<|S.ct (A:=cc aF 89 d aZ s L peer cg W F n) (bs:=iC aF 89 d z.k aZ z.bI z.mp s L peer cg n z.M z.c) aW (fun m h=>cc.fold z h) ?_;exact S.rt results56 rfl hR ⟨rfl,rfl⟩
end Go.Proofs.YtojafegjlahajaaGreatDoor
