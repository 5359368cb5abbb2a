/- Texts of this proof. -/
import Derived.Test.YtodhbhanmdfdeaaGreatQGets20
import Derived.Test.YtodhbhanmdfdeaaGreatQSpMake
open Go Go.Sp Go.Proofs.Tryz
set_option maxRecDepth 100000
set_option maxHeartbeats 1000000
attribute [local irreducible] obj Own OwnP
set_option maxHeartbeats 2000000
namespace Go.Proofs.YtodhbhanmdfdeaaGreat
theorem recK_arr {v v8:Value} {key:List UInt8} {c:Int} {m:Fr} (h0:key.length≤9223372036854775807) (hc:InI64 c) (st:Sat [OwnP (Rp.cells 7) 74 v [[.string (str key),.int .i64 c,.int .i64 1,.slice none 0 0,.bool false,.slice none 0 0,v8]],OwnP Rp.u8 5 v8 (List.replicate 64 0)] m):Arr RecRp m v [recK key c]:=by
 obtain ⟨m1,k1,_,s1,t1,o1,m2,_,_,s2,_,o2,_⟩:=st;exact Arr.ofCells (o1.arr.mono s1) ⟨RecRp.mk h0 hc zM Arr.nil Arr.nil (o2.arr.mono (Fr.sub_trans s2 t1)),trivial⟩ rfl
theorem leafK_c {r:Fr} {key:List UInt8} {c:Int} (h0:key.length≤9223372036854775807) (hc:InI64 c) :
  Con prog 29 #[.string (str key),.int .i64 c] r [] (Ret fun v η=>∃ a q,v=.agg #[.string (str key),.slice a 1 q]∧η=[fun m=>Arr RecRp m (.slice a 1 q) [recK key c]]):=by
 refine Con.o func29 fun g hg R hR=>?_;refine S.seq<|S.region rfl<|O.opE (.p rfl) (.alloc (cs:=[.string ⟨#[]⟩,.slice none 0 0]) zeroValue49 rfl) ?_;rintro _ _ ⟨b4,rfl,rfl⟩;refine zz 6 ?_;refine O.opE (.p rfl) (.makeP (T:=Rp.u8) (0:UInt8) (m:=64) underlying31 elem5 zE rfl rfl rfl rfl rfl zE zE) ?_;rintro _ _ ⟨a8,c8,rfl,rfl⟩;refine O.op (.p rfl) (.build (cs:=[_,_,_,_,_,_,_]) underlying74 rfl rfl rfl rfl rfl)<|O.opE (.p rfl) (.litP (T:=Rp.cells 7) (ys:=[[.string (str key),.int .i64 c,.int .i64 1,.slice none 0 0,.bool false,.slice none 0 0,.slice a8 64 c8]]) underlying47 elem74 zE rfl rfl ⟨⟨rfl,rfl,by first|(simp;done)|(intro v hv;simp [Value.cells] at hv;rcases hv with rfl|rfl<;>rfl)|(refine List.forall_mem_cons.2 ⟨rfl,?_⟩;repeat (first|exact (fun _ h=>absurd h List.not_mem_nil)|refine List.forall_mem_cons.2 ⟨rfl,?_⟩))⟩,trivial⟩ zE) ?_;rintro _ _ ⟨a10,c10,rfl,rfl⟩;refine O.op (.p rfl) (.build (cs:=[_,_]) underlying49 rfl rfl rfl rfl rfl) ?_;refine zz 1 ?_;refine O.nil<|S.foldS (A:=fun m=>Arr RecRp m (.slice a10 1 c10) [recK key c]) (bs:=[OwnP (Rp.cells 7) 74 (.slice a10 1 c10) [[.string (str key),.int .i64 c,.int .i64 1,.slice none 0 0,.bool false,.slice none 0 0,.slice a8 64 c8]],OwnP Rp.u8 5 (.slice a8 64 c8) (List.replicate 64 0)]) zI (fun m x=>recK_arr h0 hc x) ?_;refine S.retCellAgg results29 isAgg49 zB rfl zC fun w hw=>Holds.end_ hR hw ?_
 exact pk ⟨a10,c10,rfl,rfl⟩
theorem rootK_c {r:Fr} {rep sh:Int} {f:UInt8} :
  Con prog 30 #[.int .i64 rep,.int .i64 sh,byteV f] r [] (Ret fun v η=>∃ a q a' q',v=.agg #[.int .i64 rep,.int .i64 sh,.int .i64 1,.slice a 64 q,.slice a' 64 q']∧η=[OwnP Rp.u8 5 (.slice a 64 q) (f::List.replicate 63 0),OwnP Rp.u8 5 (.slice a' 64 q') (List.replicate 64 0)]):=by
 refine Con.o func30 fun g hg R hR=>?_;refine S.seq<|S.region rfl<|O.opE (.p rfl) (.alloc (cs:=[.int .i64 0,.int .i64 0,.int .i64 0,.slice none 0 0,.slice none 0 0]) zeroValue52 rfl) ?_;rintro _ _ ⟨b6,rfl,rfl⟩;refine O.nil<|S.seq<|S.regionD (L:=.range 7) F.mixed zB<|OD.q 2 rfl<|OD.alt2 2 3 [3,4,5,6] [2,4,5,6] zB rfl rfl ?_ ?_
 ·refine ODt.makeP (T:=Rp.u8) (0:UInt8) (m:=64) (.p rfl) zB underlying31 elem5 zE rfl rfl rfl rfl rfl zE zE (fun a10 c10=>?_)
  refine OD.makeP (T:=Rp.u8) (0:UInt8) (m:=64) (.p rfl) zB underlying31 elem5 zE rfl rfl rfl rfl rfl zE zE (fun a11 c11=>?_);refine .quiet (.p rfl) rfl (fun _=>.build (cs:=[_,_,_,_,_]) underlying52 rfl rfl rfl rfl rfl)<|.lazy rfl zB rfl fun b7=>?_;refine OD.storeObj rfl zB zB rfl rfl rfl rfl zC zU ?_;refine zz 5 ?_;refine O.q 1 rfl<|O.opE (.p rfl) (.idxOwn (T:=Rp.u8) underlying31 size5 rfl rfl (show _=((0:Nat):Int) from rfl) zC zR) ?_;rintro _ _ ⟨p16,rfl,hp16,rfl⟩;refine O.opU rfl (.storeOwn size5 rfl hp16 rfl zC zR (show _=_ by rfl:Rp.rel _ _ _ (f))) ?_;refine zz 2 ?_;rw [show (List.replicate 64 (0:UInt8)).set 0 f=f::List.replicate 63 0 from rfl];refine zz 3 ?_;refine O.nil<|S.retCellAgg results30 isAgg52 zB rfl zC fun w hw=>Holds.end_ hR hw ?_;exact pk ⟨a10,c10,a11,c11,rfl,rfl⟩
 ·refine ODt.makeP (T:=Rp.u8) (0:UInt8) (m:=64) (.p rfl) zB underlying31 elem5 zE rfl rfl rfl rfl rfl zE zE (fun a11 c11=>?_)
  refine OD.makeP (T:=Rp.u8) (0:UInt8) (m:=64) (.p rfl) zB underlying31 elem5 zE rfl rfl rfl rfl rfl zE zE (fun a10 c10=>?_);refine .quiet (.p rfl) rfl (fun _=>.build (cs:=[_,_,_,_,_]) underlying52 rfl rfl rfl rfl rfl)<|.lazy rfl zB rfl fun b7=>?_;refine OD.storeObj rfl zB zB rfl rfl rfl rfl zC zU ?_;refine zz 5 ?_;refine O.q 1 rfl<|O.opE (.p rfl) (.idxOwn (T:=Rp.u8) underlying31 size5 rfl rfl (show _=((0:Nat):Int) from rfl) zC zR) ?_;rintro _ _ ⟨p16,rfl,hp16,rfl⟩;refine O.opU rfl (.storeOwn size5 rfl hp16 rfl zC zR (show _=_ by rfl:Rp.rel _ _ _ (f))) ?_;refine zz 2 ?_;rw [show (List.replicate 64 (0:UInt8)).set 0 f=f::List.replicate 63 0 from rfl];refine zz 3 ?_;refine O.nil<|S.retCellAgg results30 isAgg52 zB rfl zC fun w hw=>Holds.end_ hR hw ?_;exact pk ⟨a10,c10,a11,c11,rfl,rfl⟩
theorem evdK_c {r:Fr} {rep:Int} {f:UInt8} :
  Con prog 31 #[.int .i64 rep,byteV f] r [] (Ret fun v η=>∃ a q a' q' b p b' p',v=.agg #[.int .i64 rep,.int .i64 0,.int .i64 1,.slice a 64 q,.slice a' 64 q',.int .i64 rep,.int .i64 0,.int .i64 1,.slice b 64 p,.slice b' 64 p']∧η=[OwnP Rp.u8 5 (.slice a 64 q) (f::List.replicate 63 0),OwnP Rp.u8 5 (.slice a' 64 q') (List.replicate 64 0),OwnP Rp.u8 5 (.slice b 64 p) ((f+1)::List.replicate 63 0),OwnP Rp.u8 5 (.slice b' 64 p') (List.replicate 64 0)]):=by
 refine Con.o func31 fun g hg R hR=>?_;refine S.seq<|S.region rfl<|O.opE (.p rfl) (.alloc (cs:=[.int .i64 0,.int .i64 0,.int .i64 0,.slice none 0 0,.slice none 0 0,.int .i64 0,.int .i64 0,.int .i64 0,.slice none 0 0,.slice none 0 0]) zeroValue55 rfl) ?_;rintro _ _ ⟨b4,rfl,rfl⟩;refine zz 5 ?_;refine O.call0 (.p rfl) rfl zB rfl rfl (rootK_c) ?_;rintro _ _ ⟨a7,c7,d7,e7,rfl,rfl⟩;refine O.q 2 rfl<|O.op (.p rfl) (.addW rfl rfl)<|O.slot 10 (v' :=byteV (f+1)) rfl (by exact congrArg (Value.int .u8) (by simp [IntKind.wrap,IntKind.bits,IntKind.signed,UInt8.toNat_add])) ?_;refine O.call0 (.p rfl) rfl zB rfl rfl (rootK_c) ?_;rintro _ _ ⟨a11,c11,d11,e11,rfl,rfl⟩;refine O.op (.p rfl) (.build (cs:=[_,_,_,_,_,_,_,_,_,_]) underlying55 rfl rfl rfl rfl rfl) ?_;refine zz 1 ?_;refine O.nil<|S.retCellAgg results31 isAgg55 zB rfl zC fun w hw=>Holds.end_ hR hw ?_;exact pk ⟨a7,c7,d7,e7,a11,c11,d11,e11,rfl,rfl⟩
def leavesK:List LeafT:=[leafK [97] 1,leafK [98] 2,leafK [97] 3,([99],[],()),([100],[recK [101] 1],()),leafK [] 1,leafK [97,98] 0]
def rootsK:List RootT:=[rootK 1 0 0,rootK 1 1 0,rootK 1 3 9,rootK 2 2 0,rootK 1 4 0,(0,0,0,[],[],())]
def proofsK:List EvdT:=[evdK 1 0,evdK 2 0,evdK 1 5,(rootK 1 0 1,rootK 1 0 0,()),(rootK 1 0 0,rootK 1 1 1,())]
def shutK:List Int:=[-1,0,1,2,7,8,9223372036854775807]
theorem recK_ok (k:List UInt8) (c:Int) (h:k.length≤2):RecOk big (recK k c):=⟨by unfold big;show k.length≤_;omega,by unfold big;show 0≤_;omega,by unfold big;show 0≤_;omega,by unfold big recK;simp⟩
theorem leafK_ok (k:List UInt8) (c:Int) (h:k.length≤2):LeafOk big (leafK k c):=⟨by unfold big;show k.length≤_;omega,by unfold big;show 1≤_;omega,fun y hy=>by rw [List.mem_singleton.1 hy];exact recK_ok k c h⟩
theorem rootK_ok' (a b:Int) (f:UInt8):RootOk big (rootK a b f):=⟨by unfold big rootK;simp,by unfold big rootK;simp⟩
theorem leavesK_ok:∀ x∈leavesK,LeafOk big x:=by
 intro x hx
 simp only [leavesK,List.mem_cons,List.not_mem_nil,or_false] at hx
 rcases hx with rfl|rfl|rfl|rfl|rfl|rfl|rfl
 ·exact leafK_ok _ _ zE
 ·exact leafK_ok _ _ zE
 ·exact leafK_ok _ _ zE
 ·exact ⟨by unfold big;simp,by unfold big;simp,fun y hy=>by cases hy⟩
 ·exact ⟨by unfold big;simp,by unfold big;simp,fun y hy=>by rw [List.mem_singleton.1 hy];exact recK_ok _ _ zE⟩
 ·exact leafK_ok _ _ zE
 ·exact leafK_ok _ _ zE
theorem rootsK_ok:∀ x∈rootsK,RootOk big x:=by
 intro x hx
 simp only [rootsK,List.mem_cons,List.not_mem_nil,or_false] at hx
 rcases hx with rfl|rfl|rfl|rfl|rfl|rfl
 ·exact rootK_ok' _ _ _
 ·exact rootK_ok' _ _ _
 ·exact rootK_ok' _ _ _
 ·exact rootK_ok' _ _ _
 ·exact rootK_ok' _ _ _
 ·exact ⟨Nat.zero_le _,Nat.zero_le _⟩
theorem evdK_ok' {x y:RootT} (h:RootOk big x) (h' :RootOk big y):EvdOk big (x,y,()):=⟨h.1,h.2,h'.1,h'.2⟩
theorem proofsK_ok:∀ x∈proofsK,EvdOk big x:=by
 intro x hx
 simp only [proofsK,List.mem_cons,List.not_mem_nil,or_false] at hx
 rcases hx with rfl|rfl|rfl|rfl|rfl
 ·exact evdK_ok' (rootK_ok' _ _ _) (rootK_ok' _ _ _)
 ·exact evdK_ok' (rootK_ok' _ _ _) (rootK_ok' _ _ _)
 ·exact evdK_ok' (rootK_ok' _ _ _) (rootK_ok' _ _ _)
 ·exact evdK_ok' (rootK_ok' _ _ _) (rootK_ok' _ _ _)
 ·exact evdK_ok' (rootK_ok' _ _ _) (rootK_ok' _ _ _)
theorem heldK_ok {l:List LeafT} {r:List RootT} {p:List EvdT} {s:List Int} (hl:l.length≤100∧∀ x∈l,x∈leavesK) (hr:r.length≤100∧∀ x∈r,x∈rootsK) (hp:p.length≤100∧∀ x∈p,x∈proofsK) (hs:s.length≤100):HeldOk big (l,r,p,s,()) :=
 ⟨⟨by unfold big;show l.length≤_;omega,fun x hx=>leavesK_ok x (hl.2 x hx)⟩,⟨by unfold big;show r.length≤_;omega,fun x hx=>rootsK_ok x (hr.2 x hx)⟩,⟨by unfold big;show p.length≤_;omega,fun x hx=>proofsK_ok x (hp.2 x hx)⟩,by unfold big;show s.length≤_;omega⟩
theorem nilM {α:Type} {l:List α}:([]:List α).length≤100∧∀ x∈([]:List α),x∈l:=⟨by simp,fun _ h=>by cases h⟩
theorem twoM {α:Type} {l:List α} {i k:Nat} (hi:i<l.length) (hk:k<l.length):[l[i],l[k]].length≤100∧∀ x∈[l[i],l[k]],x∈l:=⟨by simp,fun x h=>by
 simp only [List.mem_cons,List.not_mem_nil,or_false] at h
 rcases h with rfl|rfl
 ·exact List.getElem_mem _
 ·exact List.getElem_mem _⟩
theorem cutM {α:Type} {l:List α} (hl:l.length≤100) (a b:Nat):((l.take b).drop a).length≤100∧∀ x∈(l.take b).drop a,x∈l:=⟨by simp;omega,fun x h=>List.mem_of_mem_take (List.mem_of_mem_drop h)⟩
theorem numB:HeldB numK:=⟨⟨by decide,fun x hx=>by
 simp only [numK,List.mem_cons,List.not_mem_nil,or_false] at hx
 rcases hx with rfl|rfl<;>decide⟩,by decide,by decide,by decide⟩
theorem numOut_le:(imgOut numK).length≤4000:=by
 cases e:imgW numK with
 |none=>simp [imgOut,e]
 |some ob =>
  have e1:imgOut numK=heldB numK:=by rw [← imgW_out e];simp [imgOut,e]
  obtain ⟨p0,p1,p2⟩:=imgW_all (h:=numK) (by rw [e];rfl);have q0:=leafRows_le p0;have q1:=rowsB_le (fun x=>bytesOf (rootB x)) 161 numK.2.1 fun x hx=>by have:=rootB_length (p1 x hx);simp;omega
  have q2:=rowsB_le (fun x=>bytesOf (evdB x)) 330 numK.2.2.1 fun x hx=>by have:=evdB_length (p2 x hx);simp;omega
  have q3:=rowsB_le be 8 numK.2.2.2.1 fun x _=>by simp
  have n0:numK.1.length=2:=rfl;have n1:recsIn numK.1=2:=rfl;have n2:numK.2.1.length=2:=rfl;have n3:numK.2.2.1.length=1:=rfl;have n4:numK.2.2.2.1.length=2:=rfl;rw [e1];simp only [heldB,List.length_append,be_length]
  omega
theorem lenN {α:Type} {T:Rp α} {m:Fr} {a:Option Addr} {n c:Nat} {xs:List α} (h:Arr T m (.slice a n c) xs):n=xs.length:=by
 obtain ⟨_,_,e⟩:=h.shape
 injection e
theorem takeM {α:Type} {l:List α} (hl:l.length≤100) (b:Nat):(l.take b).length≤100∧∀ x∈l.take b,x∈l:=⟨by simp;omega,fun x h=>List.mem_of_mem_take h⟩
theorem leaves_arr {m:Fr} {v:Value} {a15 a16 a17 a19 a22 a23:Option Addr} {c15 c16 c17 c19 c22 c23:Nat} (st:Sat [OwnP (Rp.cells 2) 49 v [[.string (str [97]),.slice a15 1 c15],[.string (str [98]),.slice a16 1 c16],[.string (str [97]),.slice a17 1 c17],[.string (str [99]),.slice none 0 0],[.string (str [100]),.slice a19 1 c19],[.string (str []),.slice a22 1 c22],[.string (str [97,98]),.slice a23 1 c23]],fun m=>Arr RecRp m (.slice a23 1 c23) [recK [97,98] 0],fun m=>Arr RecRp m (.slice a22 1 c22) [recK [] 1],fun m=>Arr RecRp m (.slice a19 1 c19) [recK [101] 1],fun m=>Arr RecRp m (.slice a17 1 c17) [recK [97] 3],fun m=>Arr RecRp m (.slice a16 1 c16) [recK [98] 2],fun m=>Arr RecRp m (.slice a15 1 c15) [recK [97] 1]] m):Arr LeafRp m v leavesK:=by
 obtain ⟨m0,k0,_,s0,t0,o0,m1,k1,_,s1,t1,o1,m2,k2,_,s2,t2,o2,m3,k3,_,s3,t3,o3,m4,k4,_,s4,t4,o4,m5,k5,_,s5,t5,o5,m6,k6,_,s6,t6,o6,_⟩:=st;have w0:=t0;have w1:=Fr.sub_trans t1 w0;have w2:=Fr.sub_trans t2 w1;have w3:=Fr.sub_trans t3 w2;have w4:=Fr.sub_trans t4 w3;have w5:=Fr.sub_trans t5 w4;have w6:=Fr.sub_trans t6 w5;have r1:=Fr.sub_trans s1 w0;have r2:=Fr.sub_trans s2 w1;have r3:=Fr.sub_trans s3 w2;have r4:=Fr.sub_trans s4 w3;have r5:=Fr.sub_trans s5 w4;have r6:=Fr.sub_trans s6 w5;exact Arr.ofCells (o0.arr.mono s0) ⟨LeafRp.mk zG (o6.mono r6),LeafRp.mk zG (o5.mono r5),LeafRp.mk zG (o4.mono r4),LeafRp.mk zG Arr.nil,LeafRp.mk zG (o3.mono r3),LeafRp.mk zG (o2.mono r2),LeafRp.mk zG (o1.mono r1),trivial⟩ rfl
theorem roots_arr {m:Fr} {v:Value} {a25 d25 a26 d26 a27 d27 a28 d28 a29 d29:Option Addr} {c25 e25 c26 e26 c27 e27 c28 e28 c29 e29:Nat} (st:Sat [OwnP (Rp.cells 5) 52 v [[.int .i64 1,.int .i64 0,.int .i64 1,.slice a25 64 c25,.slice d25 64 e25],[.int .i64 1,.int .i64 1,.int .i64 1,.slice a26 64 c26,.slice d26 64 e26],[.int .i64 1,.int .i64 3,.int .i64 1,.slice a27 64 c27,.slice d27 64 e27],[.int .i64 2,.int .i64 2,.int .i64 1,.slice a28 64 c28,.slice d28 64 e28],[.int .i64 1,.int .i64 4,.int .i64 1,.slice a29 64 c29,.slice d29 64 e29],[.int .i64 0,.int .i64 0,.int .i64 0,.slice none 0 0,.slice none 0 0]],OwnP Rp.u8 5 (.slice a29 64 c29) (0::List.replicate 63 0),OwnP Rp.u8 5 (.slice d29 64 e29) (List.replicate 64 0),OwnP Rp.u8 5 (.slice a28 64 c28) (0::List.replicate 63 0),OwnP Rp.u8 5 (.slice d28 64 e28) (List.replicate 64 0),OwnP Rp.u8 5 (.slice a27 64 c27) (9::List.replicate 63 0),OwnP Rp.u8 5 (.slice d27 64 e27) (List.replicate 64 0),OwnP Rp.u8 5 (.slice a26 64 c26) (0::List.replicate 63 0),OwnP Rp.u8 5 (.slice d26 64 e26) (List.replicate 64 0),OwnP Rp.u8 5 (.slice a25 64 c25) (0::List.replicate 63 0),OwnP Rp.u8 5 (.slice d25 64 e25) (List.replicate 64 0)] m):Arr RootRp m v rootsK:=by
 obtain ⟨m0,k0,_,s0,t0,o0,m1,k1,_,s1,t1,o1,m2,k2,_,s2,t2,o2,m3,k3,_,s3,t3,o3,m4,k4,_,s4,t4,o4,m5,k5,_,s5,t5,o5,m6,k6,_,s6,t6,o6,m7,k7,_,s7,t7,o7,m8,k8,_,s8,t8,o8,m9,k9,_,s9,t9,o9,m10,k10,_,s10,t10,o10,_⟩:=st;have w0:=t0;have w1:=Fr.sub_trans t1 w0;have w2:=Fr.sub_trans t2 w1;have w3:=Fr.sub_trans t3 w2;have w4:=Fr.sub_trans t4 w3;have w5:=Fr.sub_trans t5 w4;have w6:=Fr.sub_trans t6 w5;have w7:=Fr.sub_trans t7 w6;have w8:=Fr.sub_trans t8 w7;have w9:=Fr.sub_trans t9 w8;have w10:=Fr.sub_trans t10 w9;have r1:=Fr.sub_trans s1 w0;have r2:=Fr.sub_trans s2 w1;have r3:=Fr.sub_trans s3 w2;have r4:=Fr.sub_trans s4 w3;have r5:=Fr.sub_trans s5 w4;have r6:=Fr.sub_trans s6 w5;have r7:=Fr.sub_trans s7 w6;have r8:=Fr.sub_trans s8 w7;have r9:=Fr.sub_trans s9 w8;have r10:=Fr.sub_trans s10 w9;exact Arr.ofCells (o0.arr.mono s0) ⟨RootRp.mk zM zM zM (o9.arr.mono r9) (o10.arr.mono r10),RootRp.mk zM zM zM (o7.arr.mono r7) (o8.arr.mono r8),RootRp.mk zM zM zM (o5.arr.mono r5) (o6.arr.mono r6),RootRp.mk zM zM zM (o3.arr.mono r3) (o4.arr.mono r4),RootRp.mk zM zM zM (o1.arr.mono r1) (o2.arr.mono r2),RootRp.mk zM zM zM Arr.nil Arr.nil,trivial⟩ rfl
theorem proofs_arr {m:Fr} {v:Value} {a32 d32 p32 s32 a33 d33 p33 s33 a34 d34 p34 s34 a35 d35 a36 d36 a38 d38 a39 d39:Option Addr} {c32 e32 q32 u32 c33 e33 q33 u33 c34 e34 q34 u34 c35 e35 c36 e36 c38 e38 c39 e39:Nat} (st:Sat [OwnP (Rp.cells 10) 55 v [[.int .i64 1,.int .i64 0,.int .i64 1,.slice a32 64 c32,.slice d32 64 e32,.int .i64 1,.int .i64 0,.int .i64 1,.slice p32 64 q32,.slice s32 64 u32],[.int .i64 2,.int .i64 0,.int .i64 1,.slice a33 64 c33,.slice d33 64 e33,.int .i64 2,.int .i64 0,.int .i64 1,.slice p33 64 q33,.slice s33 64 u33],[.int .i64 1,.int .i64 0,.int .i64 1,.slice a34 64 c34,.slice d34 64 e34,.int .i64 1,.int .i64 0,.int .i64 1,.slice p34 64 q34,.slice s34 64 u34],[.int .i64 1,.int .i64 0,.int .i64 1,.slice a35 64 c35,.slice d35 64 e35,.int .i64 1,.int .i64 0,.int .i64 1,.slice a36 64 c36,.slice d36 64 e36],[.int .i64 1,.int .i64 0,.int .i64 1,.slice a38 64 c38,.slice d38 64 e38,.int .i64 1,.int .i64 1,.int .i64 1,.slice a39 64 c39,.slice d39 64 e39]],OwnP Rp.u8 5 (.slice a39 64 c39) (1::List.replicate 63 0),OwnP Rp.u8 5 (.slice d39 64 e39) (List.replicate 64 0),OwnP Rp.u8 5 (.slice a38 64 c38) (0::List.replicate 63 0),OwnP Rp.u8 5 (.slice d38 64 e38) (List.replicate 64 0),OwnP Rp.u8 5 (.slice a36 64 c36) (0::List.replicate 63 0),OwnP Rp.u8 5 (.slice d36 64 e36) (List.replicate 64 0),OwnP Rp.u8 5 (.slice a35 64 c35) (1::List.replicate 63 0),OwnP Rp.u8 5 (.slice d35 64 e35) (List.replicate 64 0),OwnP Rp.u8 5 (.slice a34 64 c34) (5::List.replicate 63 0),OwnP Rp.u8 5 (.slice d34 64 e34) (List.replicate 64 0),OwnP Rp.u8 5 (.slice p34 64 q34) ((5+1)::List.replicate 63 0),OwnP Rp.u8 5 (.slice s34 64 u34) (List.replicate 64 0),OwnP Rp.u8 5 (.slice a33 64 c33) (0::List.replicate 63 0),OwnP Rp.u8 5 (.slice d33 64 e33) (List.replicate 64 0),OwnP Rp.u8 5 (.slice p33 64 q33) ((0+1)::List.replicate 63 0),OwnP Rp.u8 5 (.slice s33 64 u33) (List.replicate 64 0),OwnP Rp.u8 5 (.slice a32 64 c32) (0::List.replicate 63 0),OwnP Rp.u8 5 (.slice d32 64 e32) (List.replicate 64 0),OwnP Rp.u8 5 (.slice p32 64 q32) ((0+1)::List.replicate 63 0),OwnP Rp.u8 5 (.slice s32 64 u32) (List.replicate 64 0)] m):Arr EvdRp m v proofsK:=by
 obtain ⟨m0,k0,_,s0,t0,o0,m1,k1,_,s1,t1,o1,m2,k2,_,s2,t2,o2,m3,k3,_,s3,t3,o3,m4,k4,_,s4,t4,o4,m5,k5,_,s5,t5,o5,m6,k6,_,s6,t6,o6,m7,k7,_,s7,t7,o7,m8,k8,_,s8,t8,o8,m9,k9,_,s9,t9,o9,m10,k10,_,s10,t10,o10,m11,k11,_,s11,t11,o11,m12,k12,_,s12,t12,o12,m13,k13,_,s13,t13,o13,m14,k14,_,s14,t14,o14,m15,k15,_,s15,t15,o15,m16,k16,_,s16,t16,o16,m17,k17,_,s17,t17,o17,m18,k18,_,s18,t18,o18,m19,k19,_,s19,t19,o19,m20,k20,_,s20,t20,o20,_⟩:=st;have w0:=t0;have w1:=Fr.sub_trans t1 w0;have w2:=Fr.sub_trans t2 w1;have w3:=Fr.sub_trans t3 w2;have w4:=Fr.sub_trans t4 w3;have w5:=Fr.sub_trans t5 w4;have w6:=Fr.sub_trans t6 w5;have w7:=Fr.sub_trans t7 w6;have w8:=Fr.sub_trans t8 w7;have w9:=Fr.sub_trans t9 w8;have w10:=Fr.sub_trans t10 w9;have w11:=Fr.sub_trans t11 w10;have w12:=Fr.sub_trans t12 w11;have w13:=Fr.sub_trans t13 w12;have w14:=Fr.sub_trans t14 w13;have w15:=Fr.sub_trans t15 w14;have w16:=Fr.sub_trans t16 w15;have w17:=Fr.sub_trans t17 w16;have w18:=Fr.sub_trans t18 w17;have w19:=Fr.sub_trans t19 w18;have w20:=Fr.sub_trans t20 w19;have r1:=Fr.sub_trans s1 w0;have r2:=Fr.sub_trans s2 w1;have r3:=Fr.sub_trans s3 w2;have r4:=Fr.sub_trans s4 w3;have r5:=Fr.sub_trans s5 w4;have r6:=Fr.sub_trans s6 w5;have r7:=Fr.sub_trans s7 w6;have r8:=Fr.sub_trans s8 w7;have r9:=Fr.sub_trans s9 w8
 have r10:=Fr.sub_trans s10 w9;have r11:=Fr.sub_trans s11 w10;have r12:=Fr.sub_trans s12 w11;have r13:=Fr.sub_trans s13 w12;have r14:=Fr.sub_trans s14 w13;have r15:=Fr.sub_trans s15 w14;have r16:=Fr.sub_trans s16 w15;have r17:=Fr.sub_trans s17 w16;have r18:=Fr.sub_trans s18 w17;have r19:=Fr.sub_trans s19 w18;have r20:=Fr.sub_trans s20 w19;exact Arr.ofCells (o0.arr.mono s0) ⟨EvdRp.mk zM zM zM (o17.arr.mono r17) (o18.arr.mono r18) zM zM zM (o19.arr.mono r19) (o20.arr.mono r20),EvdRp.mk zM zM zM (o13.arr.mono r13) (o14.arr.mono r14) zM zM zM (o15.arr.mono r15) (o16.arr.mono r16),EvdRp.mk zM zM zM (o9.arr.mono r9) (o10.arr.mono r10) zM zM zM (o11.arr.mono r11) (o12.arr.mono r12),EvdRp.mk zM zM zM (o7.arr.mono r7) (o8.arr.mono r8) zM zM zM (o5.arr.mono r5) (o6.arr.mono r6),EvdRp.mk zM zM zM (o3.arr.mono r3) (o4.arr.mono r4) zM zM zM (o1.arr.mono r1) (o2.arr.mono r2),trivial⟩ rfl
theorem imageNumbers_c {r:Fr}:Con prog 5 #[] r [] (Ret fun v η=>v=.bool true∧η=[]):=by
 refine Con.of (n:=227) _ rfl func5 rfl rfl rfl fun g hg R hR=>?_;refine S.seq<|S.region rfl<|O.q 1 rfl<|O.nil<|S.seq<|S.region rfl<|O.call0 (.p rfl) rfl zB rfl rfl ((leafK_c (key:=[97]) (c:=1) zE zM)) ?_;rintro _ _ ⟨a15,c15,rfl,rfl⟩
 try simp only [zx1,zx2,zx3]
 refine O.call0 (.p rfl) rfl zB rfl rfl ((leafK_c (key:=[98]) (c:=2) zE zM)) ?_;rintro _ _ ⟨a16,c16,rfl,rfl⟩
 try simp only [zx1,zx2,zx3]
 refine O.call0 (.p rfl) rfl zB rfl rfl ((leafK_c (key:=[97]) (c:=3) zE zM)) ?_;rintro _ _ ⟨a17,c17,rfl,rfl⟩
 try simp only [zx1,zx2,zx3]
 refine O.op (.p rfl) (.build (cs:=[_,_]) underlying49 rfl rfl rfl rfl rfl)<|O.call0 (.p rfl) rfl zB rfl rfl ((leafK_c (key:=[101]) (c:=1) zE zM)) ?_;rintro _ _ ⟨a19,c19,rfl,rfl⟩
 try simp only [zx1,zx2,zx3]
 refine O.op (.p rfl) (.field1 (off:=1) zB rfl rfl)<|O.op (.p rfl) (.build (cs:=[_,_]) underlying49 rfl rfl rfl rfl rfl)<|O.call0 (.p rfl) rfl zB rfl rfl ((leafK_c (key:=[]) (c:=1) zE zM)) ?_;rintro _ _ ⟨a22,c22,rfl,rfl⟩
 try simp only [zx1,zx2,zx3]
 refine O.call0 (.p rfl) rfl zB rfl rfl ((leafK_c (key:=[97,98]) (c:=0) zE zM)) ?_;rintro _ _ ⟨a23,c23,rfl,rfl⟩
 try simp only [zx1,zx2,zx3]
 refine O.opE (.p rfl) (.litP (T:=Rp.cells 2) (ys:=[[.string (str [97]),.slice a15 1 c15],[.string (str [98]),.slice a16 1 c16],[.string (str [97]),.slice a17 1 c17],[.string (str [99]),.slice none 0 0],[.string (str [100]),.slice a19 1 c19],[.string (str []),.slice a22 1 c22],[.string (str [97,98]),.slice a23 1 c23]]) underlying22 elem49 zE rfl rfl ⟨⟨rfl,rfl,by first|(simp;done)|(intro v hv;simp [Value.cells] at hv;rcases hv with rfl|rfl<;>rfl)|(refine List.forall_mem_cons.2 ⟨rfl,?_⟩;repeat (first|exact (fun _ h=>absurd h List.not_mem_nil)|refine List.forall_mem_cons.2 ⟨rfl,?_⟩))⟩,⟨rfl,rfl,by first|(simp;done)|(intro v hv;simp [Value.cells] at hv;rcases hv with rfl|rfl<;>rfl)|(refine List.forall_mem_cons.2 ⟨rfl,?_⟩;repeat (first|exact (fun _ h=>absurd h List.not_mem_nil)|refine List.forall_mem_cons.2 ⟨rfl,?_⟩))⟩,⟨rfl,rfl,by first|(simp;done)|(intro v hv;simp [Value.cells] at hv;rcases hv with rfl|rfl<;>rfl)|(refine List.forall_mem_cons.2 ⟨rfl,?_⟩;repeat (first|exact (fun _ h=>absurd h List.not_mem_nil)|refine List.forall_mem_cons.2 ⟨rfl,?_⟩))⟩,⟨rfl,rfl,by first|(simp;done)|(intro v hv;simp [Value.cells] at hv;rcases hv with rfl|rfl<;>rfl)|(refine List.forall_mem_cons.2 ⟨rfl,?_⟩;repeat (first|exact (fun _ h=>absurd h List.not_mem_nil)|refine List.forall_mem_cons.2 ⟨rfl,?_⟩))⟩,⟨rfl,rfl,by first|(simp;done)|(intro v hv;simp [Value.cells] at hv;rcases hv with rfl|rfl<;>rfl)|(refine List.forall_mem_cons.2 ⟨rfl,?_⟩;repeat (first|exact (fun _ h=>absurd h List.not_mem_nil)|refine List.forall_mem_cons.2 ⟨rfl,?_⟩))⟩,⟨rfl,rfl,by first|(simp;done)|(intro v hv;simp [Value.cells] at hv;rcases hv with rfl|rfl<;>rfl)|(refine List.forall_mem_cons.2 ⟨rfl,?_⟩;repeat (first|exact (fun _ h=>absurd h List.not_mem_nil)|refine List.forall_mem_cons.2 ⟨rfl,?_⟩))⟩,⟨rfl,rfl,by first|(simp;done)|(intro v hv;simp [Value.cells] at hv;rcases hv with rfl|rfl<;>rfl)|(refine List.forall_mem_cons.2 ⟨rfl,?_⟩;repeat (first|exact (fun _ h=>absurd h List.not_mem_nil)|refine List.forall_mem_cons.2 ⟨rfl,?_⟩))⟩,trivial⟩ zE) ?_
 rintro _ _ ⟨a24,c24,rfl,rfl⟩;refine O.q 1 rfl<|O.nil<|S.seq<|S.foldS (A:=fun m=>Arr LeafRp m (.slice a24 7 c24) leavesK) (bs:=[OwnP (Rp.cells 2) 49 (.slice a24 7 c24) [[.string (str [97]),.slice a15 1 c15],[.string (str [98]),.slice a16 1 c16],[.string (str [97]),.slice a17 1 c17],[.string (str [99]),.slice none 0 0],[.string (str [100]),.slice a19 1 c19],[.string (str []),.slice a22 1 c22],[.string (str [97,98]),.slice a23 1 c23]],fun m=>Arr RecRp m (.slice a23 1 c23) [recK [97,98] 0],fun m=>Arr RecRp m (.slice a22 1 c22) [recK [] 1],fun m=>Arr RecRp m (.slice a19 1 c19) [recK [101] 1],fun m=>Arr RecRp m (.slice a17 1 c17) [recK [97] 3],fun m=>Arr RecRp m (.slice a16 1 c16) [recK [98] 2],fun m=>Arr RecRp m (.slice a15 1 c15) [recK [97] 1]]) zI (fun m x=>leaves_arr x) ?_;refine S.frz (A:=(fun m=>Arr LeafRp m (.slice a24 7 c24) leavesK)) zC fun g hs hm ⟨_,x',s'⟩=>?_;have hL:=(fun s x=>Arr.mono s x) s' x';clear x' s';replace hg:=Fr.sub_trans hg hs;replace hR:=melted hR hm;clear hs hm;generalize hhL:leavesK=Ls at hL;refine S.region rfl<|O.call0 (.p rfl) rfl zB rfl rfl ((rootK_c (rep:=1) (sh:=0) (f:=0))) ?_;rintro _ _ ⟨a25,c25,d25,e25,rfl,rfl⟩
 try simp only [zx1,zx2,zx3]
 refine O.call0 (.p rfl) rfl zB rfl rfl ((rootK_c (rep:=1) (sh:=1) (f:=0))) ?_;rintro _ _ ⟨a26,c26,d26,e26,rfl,rfl⟩
 try simp only [zx1,zx2,zx3]
 refine O.call0 (.p rfl) rfl zB rfl rfl ((rootK_c (rep:=1) (sh:=3) (f:=9))) ?_;rintro _ _ ⟨a27,c27,d27,e27,rfl,rfl⟩
 try simp only [zx1,zx2,zx3]
 refine O.call0 (.p rfl) rfl zB rfl rfl ((rootK_c (rep:=2) (sh:=2) (f:=0))) ?_;rintro _ _ ⟨a28,c28,d28,e28,rfl,rfl⟩
 try simp only [zx1,zx2,zx3]
 refine O.call0 (.p rfl) rfl zB rfl rfl ((rootK_c (rep:=1) (sh:=4) (f:=0))) ?_;rintro _ _ ⟨a29,c29,d29,e29,rfl,rfl⟩
 try simp only [zx1,zx2,zx3]
 refine O.op (.p rfl) (.build (cs:=[_,_,_,_,_]) underlying52 rfl rfl rfl rfl rfl)<|O.opE (.p rfl) (.litP (T:=Rp.cells 5) (ys:=[[.int .i64 1,.int .i64 0,.int .i64 1,.slice a25 64 c25,.slice d25 64 e25],[.int .i64 1,.int .i64 1,.int .i64 1,.slice a26 64 c26,.slice d26 64 e26],[.int .i64 1,.int .i64 3,.int .i64 1,.slice a27 64 c27,.slice d27 64 e27],[.int .i64 2,.int .i64 2,.int .i64 1,.slice a28 64 c28,.slice d28 64 e28],[.int .i64 1,.int .i64 4,.int .i64 1,.slice a29 64 c29,.slice d29 64 e29],[.int .i64 0,.int .i64 0,.int .i64 0,.slice none 0 0,.slice none 0 0]]) underlying23 elem52 zE rfl rfl ⟨⟨rfl,rfl,by first|(simp;done)|(intro v hv;simp [Value.cells] at hv;rcases hv with rfl|rfl<;>rfl)|(refine List.forall_mem_cons.2 ⟨rfl,?_⟩;repeat (first|exact (fun _ h=>absurd h List.not_mem_nil)|refine List.forall_mem_cons.2 ⟨rfl,?_⟩))⟩,⟨rfl,rfl,by first|(simp;done)|(intro v hv;simp [Value.cells] at hv;rcases hv with rfl|rfl<;>rfl)|(refine List.forall_mem_cons.2 ⟨rfl,?_⟩;repeat (first|exact (fun _ h=>absurd h List.not_mem_nil)|refine List.forall_mem_cons.2 ⟨rfl,?_⟩))⟩,⟨rfl,rfl,by first|(simp;done)|(intro v hv;simp [Value.cells] at hv;rcases hv with rfl|rfl<;>rfl)|(refine List.forall_mem_cons.2 ⟨rfl,?_⟩;repeat (first|exact (fun _ h=>absurd h List.not_mem_nil)|refine List.forall_mem_cons.2 ⟨rfl,?_⟩))⟩,⟨rfl,rfl,by first|(simp;done)|(intro v hv;simp [Value.cells] at hv;rcases hv with rfl|rfl<;>rfl)|(refine List.forall_mem_cons.2 ⟨rfl,?_⟩;repeat (first|exact (fun _ h=>absurd h List.not_mem_nil)|refine List.forall_mem_cons.2 ⟨rfl,?_⟩))⟩,⟨rfl,rfl,by first|(simp;done)|(intro v hv;simp [Value.cells] at hv;rcases hv with rfl|rfl<;>rfl)|(refine List.forall_mem_cons.2 ⟨rfl,?_⟩;repeat (first|exact (fun _ h=>absurd h List.not_mem_nil)|refine List.forall_mem_cons.2 ⟨rfl,?_⟩))⟩,⟨rfl,rfl,by first|(simp;done)|(intro v hv;simp [Value.cells] at hv;rcases hv with rfl|rfl<;>rfl)|(refine List.forall_mem_cons.2 ⟨rfl,?_⟩;repeat (first|exact (fun _ h=>absurd h List.not_mem_nil)|refine List.forall_mem_cons.2 ⟨rfl,?_⟩))⟩,trivial⟩ zE) ?_
 rintro _ _ ⟨a31,c31,rfl,rfl⟩;refine O.q 1 rfl<|O.nil<|S.seq<|S.foldS (A:=fun m=>Arr RootRp m (.slice a31 6 c31) rootsK) (bs:=[OwnP (Rp.cells 5) 52 (.slice a31 6 c31) [[.int .i64 1,.int .i64 0,.int .i64 1,.slice a25 64 c25,.slice d25 64 e25],[.int .i64 1,.int .i64 1,.int .i64 1,.slice a26 64 c26,.slice d26 64 e26],[.int .i64 1,.int .i64 3,.int .i64 1,.slice a27 64 c27,.slice d27 64 e27],[.int .i64 2,.int .i64 2,.int .i64 1,.slice a28 64 c28,.slice d28 64 e28],[.int .i64 1,.int .i64 4,.int .i64 1,.slice a29 64 c29,.slice d29 64 e29],[.int .i64 0,.int .i64 0,.int .i64 0,.slice none 0 0,.slice none 0 0]],OwnP Rp.u8 5 (.slice a29 64 c29) (0::List.replicate 63 0),OwnP Rp.u8 5 (.slice d29 64 e29) (List.replicate 64 0),OwnP Rp.u8 5 (.slice a28 64 c28) (0::List.replicate 63 0),OwnP Rp.u8 5 (.slice d28 64 e28) (List.replicate 64 0),OwnP Rp.u8 5 (.slice a27 64 c27) (9::List.replicate 63 0),OwnP Rp.u8 5 (.slice d27 64 e27) (List.replicate 64 0),OwnP Rp.u8 5 (.slice a26 64 c26) (0::List.replicate 63 0),OwnP Rp.u8 5 (.slice d26 64 e26) (List.replicate 64 0),OwnP Rp.u8 5 (.slice a25 64 c25) (0::List.replicate 63 0),OwnP Rp.u8 5 (.slice d25 64 e25) (List.replicate 64 0)]) zI (fun m x=>roots_arr x) ?_;refine S.frz (A:=(fun m=>Arr RootRp m (.slice a31 6 c31) rootsK)) zC fun g hs hm ⟨_,x',s'⟩=>?_;have hO:=(fun s x=>Arr.mono s x) s' x';clear x' s';replace hg:=Fr.sub_trans hg hs;replace hR:=melted hR hm
 try replace hL:=hL.mono hs
 try replace hL:=hL.mono hs
 clear hs hm;generalize hhR:rootsK=Rs at hO;refine S.region rfl<|O.call0 (.p rfl) rfl zB rfl rfl ((evdK_c (rep:=1) (f:=0))) ?_;rintro _ _ ⟨a32,c32,d32,e32,p32,q32,s32,u32,rfl,rfl⟩
 try simp only [zx1,zx2,zx3]
 refine O.call0 (.p rfl) rfl zB rfl rfl ((evdK_c (rep:=2) (f:=0))) ?_;rintro _ _ ⟨a33,c33,d33,e33,p33,q33,s33,u33,rfl,rfl⟩
 try simp only [zx1,zx2,zx3]
 refine O.call0 (.p rfl) rfl zB rfl rfl ((evdK_c (rep:=1) (f:=5))) ?_;rintro _ _ ⟨a34,c34,d34,e34,p34,q34,s34,u34,rfl,rfl⟩
 try simp only [zx1,zx2,zx3]
 refine O.call0 (.p rfl) rfl zB rfl rfl ((rootK_c (rep:=1) (sh:=0) (f:=1))) ?_;rintro _ _ ⟨a35,c35,d35,e35,rfl,rfl⟩
 try simp only [zx1,zx2,zx3]
 refine O.call0 (.p rfl) rfl zB rfl rfl ((rootK_c (rep:=1) (sh:=0) (f:=0))) ?_;rintro _ _ ⟨a36,c36,d36,e36,rfl,rfl⟩
 try simp only [zx1,zx2,zx3]
 refine O.op (.p rfl) (.build (cs:=[_,_,_,_,_,_,_,_,_,_]) underlying55 rfl rfl rfl rfl rfl)<|O.call0 (.p rfl) rfl zB rfl rfl ((rootK_c (rep:=1) (sh:=0) (f:=0))) ?_;rintro _ _ ⟨a38,c38,d38,e38,rfl,rfl⟩
 try simp only [zx1,zx2,zx3]
 refine O.call0 (.p rfl) rfl zB rfl rfl ((rootK_c (rep:=1) (sh:=1) (f:=1))) ?_;rintro _ _ ⟨a39,c39,d39,e39,rfl,rfl⟩
 try simp only [zx1,zx2,zx3]
 refine O.op (.p rfl) (.build (cs:=[_,_,_,_,_,_,_,_,_,_]) underlying55 rfl rfl rfl rfl rfl)<|O.opE (.p rfl) (.litP (T:=Rp.cells 10) (ys:=[[.int .i64 1,.int .i64 0,.int .i64 1,.slice a32 64 c32,.slice d32 64 e32,.int .i64 1,.int .i64 0,.int .i64 1,.slice p32 64 q32,.slice s32 64 u32],[.int .i64 2,.int .i64 0,.int .i64 1,.slice a33 64 c33,.slice d33 64 e33,.int .i64 2,.int .i64 0,.int .i64 1,.slice p33 64 q33,.slice s33 64 u33],[.int .i64 1,.int .i64 0,.int .i64 1,.slice a34 64 c34,.slice d34 64 e34,.int .i64 1,.int .i64 0,.int .i64 1,.slice p34 64 q34,.slice s34 64 u34],[.int .i64 1,.int .i64 0,.int .i64 1,.slice a35 64 c35,.slice d35 64 e35,.int .i64 1,.int .i64 0,.int .i64 1,.slice a36 64 c36,.slice d36 64 e36],[.int .i64 1,.int .i64 0,.int .i64 1,.slice a38 64 c38,.slice d38 64 e38,.int .i64 1,.int .i64 1,.int .i64 1,.slice a39 64 c39,.slice d39 64 e39]]) underlying24 elem55 zE rfl rfl ⟨⟨rfl,rfl,by first|(simp;done)|(intro v hv;simp [Value.cells] at hv;rcases hv with rfl|rfl<;>rfl)|(refine List.forall_mem_cons.2 ⟨rfl,?_⟩;repeat (first|exact (fun _ h=>absurd h List.not_mem_nil)|refine List.forall_mem_cons.2 ⟨rfl,?_⟩))⟩,⟨rfl,rfl,by first|(simp;done)|(intro v hv;simp [Value.cells] at hv;rcases hv with rfl|rfl<;>rfl)|(refine List.forall_mem_cons.2 ⟨rfl,?_⟩;repeat (first|exact (fun _ h=>absurd h List.not_mem_nil)|refine List.forall_mem_cons.2 ⟨rfl,?_⟩))⟩,⟨rfl,rfl,by first|(simp;done)|(intro v hv;simp [Value.cells] at hv;rcases hv with rfl|rfl<;>rfl)|(refine List.forall_mem_cons.2 ⟨rfl,?_⟩;repeat (first|exact (fun _ h=>absurd h List.not_mem_nil)|refine List.forall_mem_cons.2 ⟨rfl,?_⟩))⟩,⟨rfl,rfl,by first|(simp;done)|(intro v hv;simp [Value.cells] at hv;rcases hv with rfl|rfl<;>rfl)|(refine List.forall_mem_cons.2 ⟨rfl,?_⟩;repeat (first|exact (fun _ h=>absurd h List.not_mem_nil)|refine List.forall_mem_cons.2 ⟨rfl,?_⟩))⟩,⟨rfl,rfl,by first|(simp;done)|(intro v hv;simp [Value.cells] at hv;rcases hv with rfl|rfl<;>rfl)|(refine List.forall_mem_cons.2 ⟨rfl,?_⟩;repeat (first|exact (fun _ h=>absurd h List.not_mem_nil)|refine List.forall_mem_cons.2 ⟨rfl,?_⟩))⟩,trivial⟩ zE) ?_
 rintro _ _ ⟨a41,c41,rfl,rfl⟩
 refine O.q 1 rfl<|O.nil<|S.seq<|S.foldS (A:=fun m=>Arr EvdRp m (.slice a41 5 c41) proofsK) (bs:=[OwnP (Rp.cells 10) 55 (.slice a41 5 c41) [[.int .i64 1,.int .i64 0,.int .i64 1,.slice a32 64 c32,.slice d32 64 e32,.int .i64 1,.int .i64 0,.int .i64 1,.slice p32 64 q32,.slice s32 64 u32],[.int .i64 2,.int .i64 0,.int .i64 1,.slice a33 64 c33,.slice d33 64 e33,.int .i64 2,.int .i64 0,.int .i64 1,.slice p33 64 q33,.slice s33 64 u33],[.int .i64 1,.int .i64 0,.int .i64 1,.slice a34 64 c34,.slice d34 64 e34,.int .i64 1,.int .i64 0,.int .i64 1,.slice p34 64 q34,.slice s34 64 u34],[.int .i64 1,.int .i64 0,.int .i64 1,.slice a35 64 c35,.slice d35 64 e35,.int .i64 1,.int .i64 0,.int .i64 1,.slice a36 64 c36,.slice d36 64 e36],[.int .i64 1,.int .i64 0,.int .i64 1,.slice a38 64 c38,.slice d38 64 e38,.int .i64 1,.int .i64 1,.int .i64 1,.slice a39 64 c39,.slice d39 64 e39]],OwnP Rp.u8 5 (.slice a39 64 c39) (1::List.replicate 63 0),OwnP Rp.u8 5 (.slice d39 64 e39) (List.replicate 64 0),OwnP Rp.u8 5 (.slice a38 64 c38) (0::List.replicate 63 0),OwnP Rp.u8 5 (.slice d38 64 e38) (List.replicate 64 0),OwnP Rp.u8 5 (.slice a36 64 c36) (0::List.replicate 63 0),OwnP Rp.u8 5 (.slice d36 64 e36) (List.replicate 64 0),OwnP Rp.u8 5 (.slice a35 64 c35) (1::List.replicate 63 0),OwnP Rp.u8 5 (.slice d35 64 e35) (List.replicate 64 0),OwnP Rp.u8 5 (.slice a34 64 c34) (5::List.replicate 63 0),OwnP Rp.u8 5 (.slice d34 64 e34) (List.replicate 64 0),OwnP Rp.u8 5 (.slice p34 64 q34) ((5+1)::List.replicate 63 0),OwnP Rp.u8 5 (.slice s34 64 u34) (List.replicate 64 0),OwnP Rp.u8 5 (.slice a33 64 c33) (0::List.replicate 63 0),OwnP Rp.u8 5 (.slice d33 64 e33) (List.replicate 64 0),OwnP Rp.u8 5 (.slice p33 64 q33) ((0+1)::List.replicate 63 0),OwnP Rp.u8 5 (.slice s33 64 u33) (List.replicate 64 0),OwnP Rp.u8 5 (.slice a32 64 c32) (0::List.replicate 63 0),OwnP Rp.u8 5 (.slice d32 64 e32) (List.replicate 64 0),OwnP Rp.u8 5 (.slice p32 64 q32) ((0+1)::List.replicate 63 0),OwnP Rp.u8 5 (.slice s32 64 u32) (List.replicate 64 0)]) zI (fun m x=>proofs_arr x) ?_
 refine S.frz (A:=(fun m=>Arr EvdRp m (.slice a41 5 c41) proofsK)) zC fun g hs hm ⟨_,x',s'⟩=>?_;have hE:=(fun s x=>Arr.mono s x) s' x';clear x' s';replace hg:=Fr.sub_trans hg hs;replace hR:=melted hR hm
 try replace hL:=hL.mono hs
 try replace hL:=hL.mono hs
 try replace hO:=hO.mono hs
 try replace hO:=hO.mono hs
 clear hs hm;generalize hhE:proofsK=Es at hE;refine S.region rfl<|O.opE (.p rfl) (.litP (T:=Rp.i64) (ys:=[-1,0,1,2,7,8,9223372036854775807]) underlying25 elem3 zE rfl rfl ⟨⟨rfl,by first|assumption|(constructor<;>omega)⟩,⟨rfl,by first|assumption|(constructor<;>omega)⟩,⟨rfl,by first|assumption|(constructor<;>omega)⟩,⟨rfl,by first|assumption|(constructor<;>omega)⟩,⟨rfl,by first|assumption|(constructor<;>omega)⟩,⟨rfl,by first|assumption|(constructor<;>omega)⟩,⟨rfl,by first|assumption|(constructor<;>omega)⟩,trivial⟩ zE) ?_;rintro _ _ ⟨a42,c42,rfl,rfl⟩;refine O.q 1 rfl<|O.nil<|S.seq<|S.seq<|S.frzA zC fun g hs hm hS=>?_;replace hg:=Fr.sub_trans hg hs;replace hR:=melted hR hm
 try replace hL:=hL.mono hs
 try replace hL:=hL.mono hs
 try replace hO:=hO.mono hs
 try replace hO:=hO.mono hs
 try replace hE:=hE.mono hs
 try replace hE:=hE.mono hs
 clear hs hm;replace hS:Arr Rp.i64 g.h (.slice a42 7 c42) shutK:=hS;have nL:Ls.length=7:=by rw [← hhL];rfl
 have nR:Rs.length=6:=by rw [← hhR];rfl
 have nE:Es.length=5:=by rw [← hhE];rfl
 generalize hhS:shutK=Ss at hS;have nS:Ss.length=7:=by rw [← hhS];rfl
 refine S.region rfl<|O.q 1 rfl<|O.nil<|S.block<|S.loopK (ι:=Nat) (fun i=>i≤7) (fun i=>[(5,.int .i64 (i:Int))]) [(1,_),(2,_),(3,_),(4,_)] (fun i=>[]) (fun i=>7 - i) (0) zG (.cons rfl (.nil)) (.cons rfl (.cons rfl (.cons rfl (.cons rfl (.nil))))) rfl fun i hx ih=>?_;have hm1:=meltRefl (g:=g);refine S.seq<|S.seq<|S.region rfl<|O.q 1 rfl<|O.op (.p rfl) (.lss rfl rfl)<|O.nil ?_
 first|refine S.condD rfl (fun h44=>?_) (fun h44=>?_)|refine S.condB rfl (fun h44=>?_) (fun h44=>?_)
 ·have hi:i<7:=by omega
  refine S.skip<|S.seq<|S.block<|S.seq<|S.region rfl<|O.q 1 rfl<|O.nil<|S.block<|S.loopK (ι:=Nat) (fun k=>k≤7) (fun k=>[(6,.int .i64 (k:Int))]) [(1,_),(2,_),(3,_),(4,_),(5,_)] (fun k=>[]) (fun k=>7 - k) (0) zG (.cons rfl (.nil)) (.cons rfl (.cons rfl (.cons rfl (.cons rfl (.cons rfl (.nil)))))) rfl fun k hx ih=>?_;have hm2:=meltRefl (g:=g);refine S.seq<|S.seq<|S.region rfl<|O.q 1 rfl<|O.op (.p rfl) (.lss rfl rfl)<|O.nil ?_
  first|refine S.condD rfl (fun h48=>?_) (fun h48=>?_)|refine S.condB rfl (fun h48=>?_) (fun h48=>?_)
  ·have hk:k<7:=by omega
   have hiL:i<Ls.length:=by omega
   have hkL:k<Ls.length:=by omega
   have hiS:i<Ss.length:=by omega
   have hkS:k<Ss.length:=by omega
   refine S.skip<|S.seq<|S.block<|S.seq<|S.regionJ (L:=[0,1,2,3,4,5,6,7,10,11,12,13,14,15,16,17,20,21,22,23,24,25,26,27,28,29,30,8,9,18,19,31,32]) (fun (s:{s:((Option Addr × Nat) × (Option Addr × Nat)) × ((Option Addr × Nat) × (Option Addr × Nat) × (Option Addr × Nat)) × (List Value × List Value) // LeafRp.rel g.h s.2.2.1 Ls[i]∧LeafRp.rel g.h s.2.2.2 Ls[k]∧Arr LeafRp g.h (.slice s.2.1.1.1 ((Ls.take (i+1)).drop i).length s.2.1.1.2) ((Ls.take (i+1)).drop i)∧Arr Rp.i64 g.h (.slice s.2.1.2.1.1 ((Ss.take (k+1)).drop k).length s.2.1.2.1.2) ((Ss.take (k+1)).drop k)})=>[(7,.slice s.1.2.1.2.2.1 3 s.1.2.1.2.2.2)]) [(1,_),(2,_),(3,_),(4,_),(5,_),(6,_)] (fun (s:{s:((Option Addr × Nat) × (Option Addr × Nat)) × ((Option Addr × Nat) × (Option Addr × Nat) × (Option Addr × Nat)) × (List Value × List Value) // LeafRp.rel g.h s.2.2.1 Ls[i]∧LeafRp.rel g.h s.2.2.2 Ls[k]∧Arr LeafRp g.h (.slice s.2.1.1.1 ((Ls.take (i+1)).drop i).length s.2.1.1.2) ((Ls.take (i+1)).drop i)∧Arr Rp.i64 g.h (.slice s.2.1.2.1.1 ((Ss.take (k+1)).drop k).length s.2.1.2.1.2) ((Ss.take (k+1)).drop k)})=>[OwnP (Rp.cells 4) 27 (.slice s.1.2.1.2.2.1 3 s.1.2.1.2.2.2) [[.slice s.1.1.1.1 2 s.1.1.1.2,.slice none 0 0,.slice none 0 0,.slice none 0 0],[.slice none 0 0,.slice none 0 0,.slice none 0 0,.slice s.1.1.2.1 2 s.1.1.2.2],[.slice s.1.2.1.1.1 ((Ls.take (i+1)).drop i).length s.1.2.1.1.2,.slice none 0 0,.slice none 0 0,.slice s.1.2.1.2.1.1 ((Ss.take (k+1)).drop k).length s.1.2.1.2.1.2]],OwnP Rp.i64 3 (.slice s.1.1.2.1 2 s.1.1.2.2) [Ss[i],Ss[k]],OwnP (Rp.cells 2) 49 (.slice s.1.1.1.1 2 s.1.1.1.2) [s.1.2.2.1,s.1.2.2.2]]) (.cons rfl (.cons rfl (.cons rfl (.cons rfl (.cons rfl (.cons rfl (.nil))))))) F.mixed zB (fun kk key=>?_) (fun s=>?_)
   ·refine OD.q 2 rfl<|OD.ia (.p rfl) underlying22 size49 rfl rfl rfl (hL) (h:=fun p53 cs53 hp53 hr53=>?_)
    skip
    refine .quiet (.p rfl) rfl (fun _=>.loadAgg isAgg49 (by rw [LeafRp.len hr53];kernel_rfl) rfl hp53) ?_;refine OD.q 2 rfl<|OD.ia (.p rfl) underlying22 size49 rfl rfl rfl (hL) (h:=fun p57 cs57 hp57 hr57=>?_)
    skip
    refine .quiet (.p rfl) rfl (fun _=>.loadAgg isAgg49 (by rw [LeafRp.len hr57];kernel_rfl) rfl hp57) ?_;refine OD.q 2 rfl<|OD.ia (.p rfl) underlying25 size3 rfl rfl rfl (by first|assumption|exact Arr.mono hg zF|exact Arr.left zF|exact Arr.left (Arr.mono hg zF)) (h:=fun p63 cs63 hp63 hr63=>?_);obtain ⟨rfl,hz63⟩:=hr63;refine .quiet (.p rfl) rfl (fun _=>.loadAt flat3 rfl hp63 rfl) ?_;refine OD.q 2 rfl<|OD.ia (.p rfl) underlying25 size3 rfl rfl rfl (by first|assumption|exact Arr.mono hg zF|exact Arr.left zF|exact Arr.left (Arr.mono hg zF)) (h:=fun p67 cs67 hp67 hr67=>?_);obtain ⟨rfl,hz67⟩:=hr67;refine .quiet (.p rfl) rfl (fun _=>.loadAt flat3 rfl hp67 rfl) ?_;refine OD.q 3 rfl<|.quiet (.p rfl) rfl (fun _=>.add rfl rfl (IntWalk.i64_in _ zD))<|OD.sliceMid (a:=i) (b:=i+1) (.p rfl) underlying22 size49 rfl rfl rfl zF zH zH zH zH (fun u75 ha75=>?_);obtain ⟨a75,c75,rfl⟩:=ha75.shape;refine OD.q 3 rfl<|.quiet (.p rfl) rfl (fun _=>.add rfl rfl (IntWalk.i64_in _ zD))<|OD.sliceMid (a:=k) (b:=k+1) (.p rfl) underlying25 size3 rfl rfl rfl zF zH zH zH zH (fun u80 ha80=>?_);obtain ⟨a80,c80,rfl⟩:=ha80.shape;refine .quiet (.p rfl) rfl (fun _=>.build (cs:=[_,_,_,_]) underlying27 rfl rfl rfl rfl rfl)<|OD.alt2 8 18 [9,18,19,31,32] [8,9,19,31,32] zB rfl rfl ?_ ?_
    ·refine ODt.litP (.p rfl) zB (T:=Rp.cells 2) (ys:=[cs53,cs57]) underlying22 elem49 zE rfl rfl ⟨⟨rfl,LeafRp.len hr53,LeafRp.one hr53⟩,⟨rfl,LeafRp.len hr57,LeafRp.one hr57⟩,trivial⟩ zE (fun a59 c59=>?_)
     refine .quiet (.p rfl) rfl (fun _=>.build (cs:=[_,_,_,_]) underlying27 rfl rfl rfl rfl rfl)<|OD.litP (.p rfl) zB (T:=Rp.i64) (ys:=[Ss[i],Ss[k]]) underlying25 elem3 zE rfl rfl ⟨⟨rfl,hz63⟩,⟨rfl,hz67⟩,trivial⟩ zE (fun a69 c69=>?_)
     refine .quiet (.p rfl) rfl (fun _=>.build (cs:=[_,_,_,_]) underlying27 rfl rfl rfl rfl rfl)<|OD.litP (.p rfl) zB (T:=Rp.cells 4) (ys:=[[.slice a59 2 c59,.slice none 0 0,.slice none 0 0,.slice none 0 0],[.slice none 0 0,.slice none 0 0,.slice none 0 0,.slice a69 2 c69],[.slice a75 ((Ls.take (i+1)).drop i).length c75,.slice none 0 0,.slice none 0 0,.slice a80 ((Ss.take (k+1)).drop k).length c80]]) underlying45 elem27 zE rfl rfl ⟨⟨rfl,rfl,by first|(simp;done)|(intro v hv;simp [Value.cells] at hv;rcases hv with rfl|rfl<;>rfl)|(refine List.forall_mem_cons.2 ⟨rfl,?_⟩;repeat (first|exact (fun _ h=>absurd h List.not_mem_nil)|refine List.forall_mem_cons.2 ⟨rfl,?_⟩))⟩,⟨rfl,rfl,by first|(simp;done)|(intro v hv;simp [Value.cells] at hv;rcases hv with rfl|rfl<;>rfl)|(refine List.forall_mem_cons.2 ⟨rfl,?_⟩;repeat (first|exact (fun _ h=>absurd h List.not_mem_nil)|refine List.forall_mem_cons.2 ⟨rfl,?_⟩))⟩,⟨rfl,rfl,by first|(simp;done)|(intro v hv;simp [Value.cells] at hv;rcases hv with rfl|rfl<;>rfl)|(refine List.forall_mem_cons.2 ⟨rfl,?_⟩;repeat (first|exact (fun _ h=>absurd h List.not_mem_nil)|refine List.forall_mem_cons.2 ⟨rfl,?_⟩))⟩,trivial⟩ zE (fun a82 c82=>?_)
     refine OD.q 1 rfl<|ODx.nil<|S.pk ?_ (S.weaken (Sub.app (.cons rfl (.nil)) (.cons rfl (.cons rfl (.cons rfl (.cons rfl (.cons rfl (.cons rfl (.nil)))))))) (key ⟨(((a59,c59),(a69,c69)),((a75,c75),(a80,c80),(a82,c82)),(cs53,cs57)),hr53,hr57,ha75,ha80⟩))
     try dsimp only
     repeat (first|exact zpa|exact zpn|(apply zpc;focus (repeat (first|exact zh|apply zt)))|apply zps)
    ·refine ODt.litP (.p rfl) zB (T:=Rp.i64) (ys:=[Ss[i],Ss[k]]) underlying25 elem3 zE rfl rfl ⟨⟨rfl,hz63⟩,⟨rfl,hz67⟩,trivial⟩ zE (fun a69 c69=>?_)
     refine .swap [19,8,9,31,32] zB ?_;refine .quiet (.p rfl) rfl (fun _=>.build (cs:=[_,_,_,_]) underlying27 rfl rfl rfl rfl rfl)<|OD.litP (.p rfl) zB (T:=Rp.cells 2) (ys:=[cs53,cs57]) underlying22 elem49 zE rfl rfl ⟨⟨rfl,LeafRp.len hr53,LeafRp.one hr53⟩,⟨rfl,LeafRp.len hr57,LeafRp.one hr57⟩,trivial⟩ zE (fun a59 c59=>?_)
     refine .quiet (.p rfl) rfl (fun _=>.build (cs:=[_,_,_,_]) underlying27 rfl rfl rfl rfl rfl)<|OD.litP (.p rfl) zB (T:=Rp.cells 4) (ys:=[[.slice a59 2 c59,.slice none 0 0,.slice none 0 0,.slice none 0 0],[.slice none 0 0,.slice none 0 0,.slice none 0 0,.slice a69 2 c69],[.slice a75 ((Ls.take (i+1)).drop i).length c75,.slice none 0 0,.slice none 0 0,.slice a80 ((Ss.take (k+1)).drop k).length c80]]) underlying45 elem27 zE rfl rfl ⟨⟨rfl,rfl,by first|(simp;done)|(intro v hv;simp [Value.cells] at hv;rcases hv with rfl|rfl<;>rfl)|(refine List.forall_mem_cons.2 ⟨rfl,?_⟩;repeat (first|exact (fun _ h=>absurd h List.not_mem_nil)|refine List.forall_mem_cons.2 ⟨rfl,?_⟩))⟩,⟨rfl,rfl,by first|(simp;done)|(intro v hv;simp [Value.cells] at hv;rcases hv with rfl|rfl<;>rfl)|(refine List.forall_mem_cons.2 ⟨rfl,?_⟩;repeat (first|exact (fun _ h=>absurd h List.not_mem_nil)|refine List.forall_mem_cons.2 ⟨rfl,?_⟩))⟩,⟨rfl,rfl,by first|(simp;done)|(intro v hv;simp [Value.cells] at hv;rcases hv with rfl|rfl<;>rfl)|(refine List.forall_mem_cons.2 ⟨rfl,?_⟩;repeat (first|exact (fun _ h=>absurd h List.not_mem_nil)|refine List.forall_mem_cons.2 ⟨rfl,?_⟩))⟩,trivial⟩ zE (fun a82 c82=>?_)
     refine OD.q 1 rfl<|ODx.nil<|S.pk ?_ (S.weaken (Sub.app (.cons rfl (.nil)) (.cons rfl (.cons rfl (.cons rfl (.cons rfl (.cons rfl (.cons rfl (.nil)))))))) (key ⟨(((a59,c59),(a69,c69)),((a75,c75),(a80,c80),(a82,c82)),(cs53,cs57)),hr53,hr57,ha75,ha80⟩))
     try dsimp only
     repeat (first|exact zpa|exact zpn|(apply zpc;focus (repeat (first|exact zh|apply zt)))|apply zps)
   obtain ⟨⟨⟨⟨a59,c59⟩,⟨a69,c69⟩⟩,⟨⟨a75,c75⟩,⟨a80,c80⟩,⟨a82,c82⟩⟩,cs53,cs57⟩,hr53,hr57,ha75,ha80⟩:=s
   dsimp only
   refine S.frz (A:=OwnP (Rp.cells 2) 49 (.slice a59 2 c59) [cs53,cs57]) zC fun g hs hm ⟨_,x',s'⟩=>?_;have h59:=(fun s x=>Arr.mono s (OwnP.arr x)) s' x';clear x' s';replace hg:=Fr.sub_trans hg hs;replace hR:=melted hR hm
   try replace hL:=hL.mono hs
   try replace hL:=hL.mono hs
   try replace hO:=hO.mono hs
   try replace hO:=hO.mono hs
   try replace hE:=hE.mono hs
   try replace hE:=hE.mono hs
   try replace hS:=hS.mono hs
   try replace hS:=hS.mono hs
   try replace hr53:=hr53.mono hs
   try replace hr57:=hr57.mono hs
   try replace ha75:=ha75.mono hs
   try replace ha80:=ha80.mono hs
   replace hm1:=meltTrans hm1 hm;replace hm2:=meltTrans hm2 hm;clear hs hm;refine S.frz (A:=OwnP Rp.i64 3 (.slice a69 2 c69) [Ss[i],Ss[k]]) zC fun g hs hm ⟨_,x',s'⟩=>?_;have h69:=(fun s x=>Arr.mono s (OwnP.arr x)) s' x';clear x' s';replace hg:=Fr.sub_trans hg hs;replace hR:=melted hR hm
   try replace hL:=hL.mono hs
   try replace hL:=hL.mono hs
   try replace hO:=hO.mono hs
   try replace hO:=hO.mono hs
   try replace hE:=hE.mono hs
   try replace hE:=hE.mono hs
   try replace hS:=hS.mono hs
   try replace hS:=hS.mono hs
   try replace hr53:=hr53.mono hs
   try replace hr57:=hr57.mono hs
   try replace ha75:=ha75.mono hs
   try replace ha80:=ha80.mono hs
   try replace h59:=h59.mono hs
   replace hm1:=meltTrans hm1 hm;replace hm2:=meltTrans hm2 hm;clear hs hm;have h59:Arr LeafRp g.h (.slice a59 2 c59) [Ls[i],Ls[k]]:=Arr.ofCells h59 ⟨hr53,hr57,trivial⟩ rfl;have m1:=heldK_ok (l:=[Ls[i],Ls[k]]) (r:=[]) (p:=[]) (s:=[]) (by subst hhL;exact twoM _ _) nilM nilM zG;have m2:=heldK_ok (l:=[]) (r:=[]) (p:=[]) (s:=[Ss[i],Ss[k]]) nilM nilM nilM zG;have m3:=heldK_ok (l:=((Ls.take (i+1)).drop i)) (r:=[]) (p:=[]) (s:=((Ss.take (k+1)).drop k)) (by subst hhL;exact cutM zD _ _) nilM nilM zJ
   rcases (show i<5∨i=5∨i=6 from by omega) with qi|qi|qi
   ·rcases (show k<5∨k=5∨k=6 from by omega) with qk|qk|qk
    ·
     refine S.seq<|S.seq<|S.region rfl<|O.q 1 rfl<|O.op (.p rfl) (.lss rfl rfl)<|O.sT 84 rfl (by exact decide_eq_true zD) ?_;refine O.q 2 rfl<|O.op (.g rfl rfl) (.lss rfl rfl)<|O.sT 87 rfl (by exact decide_eq_true zD) ?_;refine O.q 1 rfl<|O.nil<|S.condT rfl<|S.regionD (L:=[0,1,2,3,4,5,6,7,8,9,10,11,12,13]) F.mixed zB ?_;refine OD.q 3 rfl<|OD.ia (.p rfl) underlying23 size52 rfl rfl rfl (hO) (h:=fun p92 cs92 hp92 hr92=>?_)
     skip
     refine .quiet (.p rfl) rfl (fun _=>.loadAgg isAgg52 (by rw [RootRp.len hr92];kernel_rfl) rfl hp92) ?_;refine OD.q 2 rfl<|OD.ia (.p rfl) underlying23 size52 rfl rfl rfl (hO) (h:=fun p96 cs96 hp96 hr96=>?_)
     skip
     refine .quiet (.p rfl) rfl (fun _=>.loadAgg isAgg52 (by rw [RootRp.len hr96];kernel_rfl) rfl hp96) ?_;refine OD.litP (.p rfl) zB (T:=Rp.cells 5) (ys:=[cs92,cs96]) underlying23 elem52 zE rfl rfl ⟨⟨rfl,RootRp.len hr92,RootRp.one hr92⟩,⟨rfl,RootRp.len hr96,RootRp.one hr96⟩,trivial⟩ zE (fun a98 c98=>?_);refine .quiet (.p rfl) rfl (fun _=>.build (cs:=[_,_,_,_]) underlying27 rfl rfl rfl rfl rfl)<|OD.litP (.p rfl) zB (T:=Rp.cells 4) (ys:=[[.slice none 0 0,.slice a98 2 c98,.slice none 0 0,.slice none 0 0]]) underlying45 elem27 zE rfl rfl ⟨⟨rfl,rfl,by first|(simp;done)|(intro v hv;simp [Value.cells] at hv;rcases hv with rfl|rfl<;>rfl)|(refine List.forall_mem_cons.2 ⟨rfl,?_⟩;repeat (first|exact (fun _ h=>absurd h List.not_mem_nil)|refine List.forall_mem_cons.2 ⟨rfl,?_⟩))⟩,trivial⟩ zE (fun a100 c100=>?_);refine OD.appendO (.p rfl) zB (T:=(Rp.cells 4)) underlying45 elem27 zE rfl rfl zC zC zH zH (fun a101 c101=>?_);refine OD.q 1 rfl<|ODx.nil<|S.seq<|S.seq<|S.frz (A:=OwnP (Rp.cells 5) 52 (.slice a98 2 c98) [cs92,cs96]) zC fun g hs hm ⟨_,x',s'⟩=>?_;have h98:=(fun s x=>Arr.mono s (OwnP.arr x)) s' x';clear x' s';replace hg:=Fr.sub_trans hg hs;replace hR:=melted hR hm
     try replace hL:=hL.mono hs
     try replace hL:=hL.mono hs
     try replace hO:=hO.mono hs
     try replace hO:=hO.mono hs
     try replace hE:=hE.mono hs
     try replace hE:=hE.mono hs
     try replace hS:=hS.mono hs
     try replace hS:=hS.mono hs
     try replace hr53:=hr53.mono hs
     try replace hr57:=hr57.mono hs
     try replace ha75:=ha75.mono hs
     try replace ha80:=ha80.mono hs
     try replace h59:=h59.mono hs
     try replace h69:=h69.mono hs
     try replace h59:=h59.mono hs
     try replace h69:=h69.mono hs
     try replace hp92:=hp92.mono hs
     try replace hp96:=hp96.mono hs
     try replace hr92:=hr92.mono hs
     try replace hr96:=hr96.mono hs
     replace hm1:=meltTrans hm1 hm;replace hm2:=meltTrans hm2 hm;clear hs hm;replace h98:Arr RootRp g.h (.slice a98 2 c98) [Rs[i],Rs[k]]:=Arr.ofCells h98 ⟨hr92,hr96,trivial⟩ rfl;refine S.region rfl<|O.q 1 rfl<|O.op (.p rfl) (.lss rfl rfl)<|O.sT 103 rfl (by exact decide_eq_true zD) ?_;refine O.q 2 rfl<|O.op (.g rfl rfl) (.lss rfl rfl)<|O.sT 106 rfl (by exact decide_eq_true zD) ?_;refine O.q 1 rfl<|O.nil<|S.condT rfl<|S.regionD (L:=[0,1,2,3,4,5,6,7,8,10,11,9,12,13,14,15]) F.mixed zB ?_;refine OD.q 3 rfl<|OD.ia (.p rfl) underlying24 size55 rfl rfl rfl (hE) (h:=fun p111 cs111 hp111 hr111=>?_)
     skip
     refine .quiet (.p rfl) rfl (fun _=>.loadAgg isAgg55 (by rw [EvdRp.len hr111];kernel_rfl) rfl hp111) ?_;refine OD.q 2 rfl<|OD.ia (.p rfl) underlying24 size55 rfl rfl rfl (hE) (h:=fun p115 cs115 hp115 hr115=>?_)
     skip
     refine .quiet (.p rfl) rfl (fun _=>.loadAgg isAgg55 (by rw [EvdRp.len hr115];kernel_rfl) rfl hp115) ?_;refine OD.q 1 rfl<|OD.sliceTo (b:=1) (.p rfl) underlying23 size52 rfl rfl zF zH zH (fun u119 ha119=>?_);obtain ⟨a119,c119,rfl⟩:=ha119.shape;refine OD.litP (.p rfl) zB (T:=Rp.cells 10) (ys:=[cs111,cs115]) underlying24 elem55 zE rfl rfl ⟨⟨rfl,EvdRp.len hr111,EvdRp.one hr111⟩,⟨rfl,EvdRp.len hr115,EvdRp.one hr115⟩,trivial⟩ zE (fun a117 c117=>?_);refine .quiet (.p rfl) rfl (fun _=>.build (cs:=[_,_,_,_]) underlying27 rfl rfl rfl rfl rfl)<|OD.litP (.p rfl) zB (T:=Rp.cells 4) (ys:=[[.slice none 0 0,.slice a119 (Rs.take 1).length c119,.slice a117 2 c117,.slice none 0 0]]) underlying45 elem27 zE rfl rfl ⟨⟨rfl,rfl,by first|(simp;done)|(intro v hv;simp [Value.cells] at hv;rcases hv with rfl|rfl<;>rfl)|(refine List.forall_mem_cons.2 ⟨rfl,?_⟩;repeat (first|exact (fun _ h=>absurd h List.not_mem_nil)|refine List.forall_mem_cons.2 ⟨rfl,?_⟩))⟩,trivial⟩ zE (fun a121 c121=>?_);refine OD.appendO (.p rfl) zB (T:=(Rp.cells 4)) underlying45 elem27 zE rfl rfl zC zC zH zH (fun a122 c122=>?_);refine OD.q 1 rfl<|ODx.nil<|S.seq<|S.frz (A:=OwnP (Rp.cells 10) 55 (.slice a117 2 c117) [cs111,cs115]) zC fun g hs hm ⟨_,x',s'⟩=>?_;have h117:=(fun s x=>Arr.mono s (OwnP.arr x)) s' x';clear x' s';replace hg:=Fr.sub_trans hg hs;replace hR:=melted hR hm
     try replace hL:=hL.mono hs
     try replace hL:=hL.mono hs
     try replace hO:=hO.mono hs
     try replace hO:=hO.mono hs
     try replace hE:=hE.mono hs
     try replace hE:=hE.mono hs
     try replace hS:=hS.mono hs
     try replace hS:=hS.mono hs
     try replace hr53:=hr53.mono hs
     try replace hr57:=hr57.mono hs
     try replace ha75:=ha75.mono hs
     try replace ha80:=ha80.mono hs
     try replace h59:=h59.mono hs
     try replace h69:=h69.mono hs
     try replace h59:=h59.mono hs
     try replace h69:=h69.mono hs
     try replace hp92:=hp92.mono hs
     try replace hp96:=hp96.mono hs
     try replace hr92:=hr92.mono hs
     try replace hr96:=hr96.mono hs
     try replace h98:=h98.mono hs
     try replace hp111:=hp111.mono hs
     try replace hp115:=hp115.mono hs
     try replace ha119:=ha119.mono hs
     try replace hr111:=hr111.mono hs
     try replace hr115:=hr115.mono hs
     try replace ha119:=ha119.mono hs
     replace hm1:=meltTrans hm1 hm;replace hm2:=meltTrans hm2 hm;clear hs hm;replace h117:Arr EvdRp g.h (.slice a117 2 c117) [Es[i],Es[k]]:=Arr.ofCells h117 ⟨hr111,hr115,trivial⟩ rfl;refine S.frzA zC fun g hs hm hlx=>?_;replace hg:=Fr.sub_trans hg hs;replace hR:=melted hR hm
     try replace hL:=hL.mono hs
     try replace hL:=hL.mono hs
     try replace hO:=hO.mono hs
     try replace hO:=hO.mono hs
     try replace hE:=hE.mono hs
     try replace hE:=hE.mono hs
     try replace hS:=hS.mono hs
     try replace hS:=hS.mono hs
     try replace hr53:=hr53.mono hs
     try replace hr57:=hr57.mono hs
     try replace ha75:=ha75.mono hs
     try replace ha80:=ha80.mono hs
     try replace h59:=h59.mono hs
     try replace h69:=h69.mono hs
     try replace h59:=h59.mono hs
     try replace h69:=h69.mono hs
     try replace hp92:=hp92.mono hs
     try replace hp96:=hp96.mono hs
     try replace hr92:=hr92.mono hs
     try replace hr96:=hr96.mono hs
     try replace h98:=h98.mono hs
     try replace hp111:=hp111.mono hs
     try replace hp115:=hp115.mono hs
     try replace ha119:=ha119.mono hs
     try replace hr111:=hr111.mono hs
     try replace hr115:=hr115.mono hs
     try replace ha119:=ha119.mono hs
     try replace h117:=h117.mono hs
     replace hm1:=meltTrans hm1 hm;replace hm2:=meltTrans hm2 hm;clear hs hm;have hrx:=Arr.ofCells (T:=HeldRp) (xs:=[([Ls[i],Ls[k]],[],[],[],()),([],[],[],[Ss[i],Ss[k]],()),(((Ls.take (i+1)).drop i),[],[],((Ss.take (k+1)).drop k),()),([],[Rs[i],Rs[k]],[],[],()),([],Rs.take 1,[Es[i],Es[k]],[],())]) hlx ⟨HeldRp.mk h59 Arr.nil Arr.nil Arr.nil,HeldRp.mk Arr.nil Arr.nil Arr.nil h69,HeldRp.mk ha75 Arr.nil Arr.nil ha80,HeldRp.mk Arr.nil h98 Arr.nil Arr.nil,HeldRp.mk Arr.nil ha119 h117 Arr.nil,trivial⟩ rfl;have hox:∀ h∈[([Ls[i],Ls[k]],[],[],[],()),([],[],[],[Ss[i],Ss[k]],()),(((Ls.take (i+1)).drop i),[],[],((Ss.take (k+1)).drop k),()),([],[Rs[i],Rs[k]],[],[],()),([],Rs.take 1,[Es[i],Es[k]],[],())],HeldOk big h:=by
      intro h hh
      simp only [List.mem_cons,List.not_mem_nil,or_false] at hh
      rcases hh with rfl|rfl|rfl|rfl|rfl
      ·exact m1
      ·exact m2
      ·exact m3
      ·exact (heldK_ok nilM (by subst hhR;exact twoM _ _) nilM zG)
      ·exact (heldK_ok nilM (by subst hhR;exact takeM zD 1) (by subst hhE;exact twoM _ _) zG)
     have hlx:([([Ls[i],Ls[k]],[],[],[],()),([],[],[],[Ss[i],Ss[k]],()),(((Ls.take (i+1)).drop i),[],[],((Ss.take (k+1)).drop k),()),([],[Rs[i],Rs[k]],[],[],()),([],Rs.take 1,[Es[i],Es[k]],[],())]:List HeldT).length=5:=rfl;have hlz:=lenN hrx;generalize ([([Ls[i],Ls[k]],[],[],[],()),([],[],[],[Ss[i],Ss[k]],()),(((Ls.take (i+1)).drop i),[],[],((Ss.take (k+1)).drop k),()),([],[Rs[i],Rs[k]],[],[],()),([],Rs.take 1,[Es[i],Es[k]],[],())]:List HeldT)=hsx at hrx hox hlx hlz;refine S.region rfl<|O.q 1 rfl<|O.nil<|S.block<|S.loopK (ι:=Nat) (fun n=>n≤hsx.length) (fun n=>[(8,.int .i64 (n:Int))]) [(1,_),(2,_),(3,_),(4,_),(5,_),(6,_),(7,_)] (fun n=>[]) (fun n=>hsx.length - n) (0) zG (.cons rfl (.nil)) (.cons rfl (.cons rfl (.cons rfl (.cons rfl (.cons rfl (.cons rfl (.cons rfl (.nil)))))))) rfl fun n hx ih=>?_;have hm3:=meltRefl (g:=g);refine S.seq<|S.seq<|S.region rfl<|O.q 2 rfl<|O.op (.p rfl) (.len rfl underlying45 rfl)<|O.op (.p rfl) (.lss rfl rfl)<|O.nil ?_
     first|refine S.condD rfl (fun h126=>?_) (fun h126=>?_)|refine S.condB rfl (fun h126=>?_) (fun h126=>?_)
     ·have hnx:n<hsx.length:=by omega
      have hoy:=hox _ (List.getElem_mem hnx);refine S.skip<|S.seq<|S.block<|S.seq<|S.region rfl<|O.q 2 rfl<|O.ia (.p rfl) underlying45 size27 rfl rfl rfl (hrx) (h:=fun p131 cs131 hp131 hr131=>?_)
      skip
      refine O.op (.p rfl) (.loadAgg isAgg27 (by rw [HeldRp.len hr131];kernel_rfl) rfl hp131) ?_;refine O.call0 (.p rfl) rfl zB rfl rfl ((imagePuts_c hr131 hoy)) ?_;rintro _ _ ⟨rfl,rfl⟩
      try simp only [zx1,zx2,zx3]
      refine O.op (.p rfl) (.not rfl)<|O.nil<|S.condF rfl<|S.skip<|S.inBlock<|S.region rfl<|O.q 1 rfl<|O.op (.p rfl) (.add rfl rfl (IntWalk.i64_in _ zD))<|O.q 1 rfl<|O.nil ?_;exact S.wk (ih (n+1) zD zD)
     ·clear ih
      refine S.exit rfl<|S.inBlock<|S.region rfl<|O.q 1 rfl<|O.op (.p rfl) (.add rfl rfl (IntWalk.i64_in _ zD))<|O.q 1 rfl<|O.nil ?_;exact S.melt hm2 (S.wk (ih (k+1) zD zD))
    ·
     refine S.seq<|S.seq<|S.region rfl<|O.q 1 rfl<|O.op (.p rfl) (.lss rfl rfl)<|O.sT 84 rfl (by exact decide_eq_true zD) ?_;refine O.q 2 rfl<|O.op (.g rfl rfl) (.lss rfl rfl)<|O.sT 87 rfl (by exact decide_eq_true zD) ?_;refine O.q 1 rfl<|O.nil<|S.condT rfl<|S.regionD (L:=[0,1,2,3,4,5,6,7,8,9,10,11,12,13]) F.mixed zB ?_;refine OD.q 3 rfl<|OD.ia (.p rfl) underlying23 size52 rfl rfl rfl (hO) (h:=fun p92 cs92 hp92 hr92=>?_)
     skip
     refine .quiet (.p rfl) rfl (fun _=>.loadAgg isAgg52 (by rw [RootRp.len hr92];kernel_rfl) rfl hp92) ?_;refine OD.q 2 rfl<|OD.ia (.p rfl) underlying23 size52 rfl rfl rfl (hO) (h:=fun p96 cs96 hp96 hr96=>?_)
     skip
     refine .quiet (.p rfl) rfl (fun _=>.loadAgg isAgg52 (by rw [RootRp.len hr96];kernel_rfl) rfl hp96) ?_;refine OD.litP (.p rfl) zB (T:=Rp.cells 5) (ys:=[cs92,cs96]) underlying23 elem52 zE rfl rfl ⟨⟨rfl,RootRp.len hr92,RootRp.one hr92⟩,⟨rfl,RootRp.len hr96,RootRp.one hr96⟩,trivial⟩ zE (fun a98 c98=>?_);refine .quiet (.p rfl) rfl (fun _=>.build (cs:=[_,_,_,_]) underlying27 rfl rfl rfl rfl rfl)<|OD.litP (.p rfl) zB (T:=Rp.cells 4) (ys:=[[.slice none 0 0,.slice a98 2 c98,.slice none 0 0,.slice none 0 0]]) underlying45 elem27 zE rfl rfl ⟨⟨rfl,rfl,by first|(simp;done)|(intro v hv;simp [Value.cells] at hv;rcases hv with rfl|rfl<;>rfl)|(refine List.forall_mem_cons.2 ⟨rfl,?_⟩;repeat (first|exact (fun _ h=>absurd h List.not_mem_nil)|refine List.forall_mem_cons.2 ⟨rfl,?_⟩))⟩,trivial⟩ zE (fun a100 c100=>?_);refine OD.appendO (.p rfl) zB (T:=(Rp.cells 4)) underlying45 elem27 zE rfl rfl zC zC zH zH (fun a101 c101=>?_);refine OD.q 1 rfl<|ODx.nil<|S.seq<|S.seq<|S.frz (A:=OwnP (Rp.cells 5) 52 (.slice a98 2 c98) [cs92,cs96]) zC fun g hs hm ⟨_,x',s'⟩=>?_;have h98:=(fun s x=>Arr.mono s (OwnP.arr x)) s' x';clear x' s';replace hg:=Fr.sub_trans hg hs;replace hR:=melted hR hm
     try replace hL:=hL.mono hs
     try replace hL:=hL.mono hs
     try replace hO:=hO.mono hs
     try replace hO:=hO.mono hs
     try replace hE:=hE.mono hs
     try replace hE:=hE.mono hs
     try replace hS:=hS.mono hs
     try replace hS:=hS.mono hs
     try replace hr53:=hr53.mono hs
     try replace hr57:=hr57.mono hs
     try replace ha75:=ha75.mono hs
     try replace ha80:=ha80.mono hs
     try replace h59:=h59.mono hs
     try replace h69:=h69.mono hs
     try replace h59:=h59.mono hs
     try replace h69:=h69.mono hs
     try replace hp92:=hp92.mono hs
     try replace hp96:=hp96.mono hs
     try replace hr92:=hr92.mono hs
     try replace hr96:=hr96.mono hs
     replace hm1:=meltTrans hm1 hm;replace hm2:=meltTrans hm2 hm;clear hs hm;replace h98:Arr RootRp g.h (.slice a98 2 c98) [Rs[i],Rs[k]]:=Arr.ofCells h98 ⟨hr92,hr96,trivial⟩ rfl;refine S.region rfl<|O.q 1 rfl<|O.op (.p rfl) (.lss rfl rfl)<|O.sT 103 rfl (by exact decide_eq_true zD) ?_;refine O.q 2 rfl<|O.op (.g rfl rfl) (.lss rfl rfl)<|O.sF 106 rfl (by exact decide_eq_false zD) ?_;refine O.q 1 rfl<|O.nil<|S.condF rfl<|S.skip<|S.seq<|S.frzA zC fun g hs hm hlx=>?_;replace hg:=Fr.sub_trans hg hs;replace hR:=melted hR hm
     try replace hL:=hL.mono hs
     try replace hL:=hL.mono hs
     try replace hO:=hO.mono hs
     try replace hO:=hO.mono hs
     try replace hE:=hE.mono hs
     try replace hE:=hE.mono hs
     try replace hS:=hS.mono hs
     try replace hS:=hS.mono hs
     try replace hr53:=hr53.mono hs
     try replace hr57:=hr57.mono hs
     try replace ha75:=ha75.mono hs
     try replace ha80:=ha80.mono hs
     try replace h59:=h59.mono hs
     try replace h69:=h69.mono hs
     try replace h59:=h59.mono hs
     try replace h69:=h69.mono hs
     try replace hp92:=hp92.mono hs
     try replace hp96:=hp96.mono hs
     try replace hr92:=hr92.mono hs
     try replace hr96:=hr96.mono hs
     try replace h98:=h98.mono hs
     replace hm1:=meltTrans hm1 hm;replace hm2:=meltTrans hm2 hm;clear hs hm;have hrx:=Arr.ofCells (T:=HeldRp) (xs:=[([Ls[i],Ls[k]],[],[],[],()),([],[],[],[Ss[i],Ss[k]],()),(((Ls.take (i+1)).drop i),[],[],((Ss.take (k+1)).drop k),()),([],[Rs[i],Rs[k]],[],[],())]) hlx ⟨HeldRp.mk h59 Arr.nil Arr.nil Arr.nil,HeldRp.mk Arr.nil Arr.nil Arr.nil h69,HeldRp.mk ha75 Arr.nil Arr.nil ha80,HeldRp.mk Arr.nil h98 Arr.nil Arr.nil,trivial⟩ rfl;have hox:∀ h∈[([Ls[i],Ls[k]],[],[],[],()),([],[],[],[Ss[i],Ss[k]],()),(((Ls.take (i+1)).drop i),[],[],((Ss.take (k+1)).drop k),()),([],[Rs[i],Rs[k]],[],[],())],HeldOk big h:=by
      intro h hh
      simp only [List.mem_cons,List.not_mem_nil,or_false] at hh
      rcases hh with rfl|rfl|rfl|rfl
      ·exact m1
      ·exact m2
      ·exact m3
      ·exact (heldK_ok nilM (by subst hhR;exact twoM _ _) nilM zG)
     have hlx:([([Ls[i],Ls[k]],[],[],[],()),([],[],[],[Ss[i],Ss[k]],()),(((Ls.take (i+1)).drop i),[],[],((Ss.take (k+1)).drop k),()),([],[Rs[i],Rs[k]],[],[],())]:List HeldT).length=4:=rfl;have hlz:=lenN hrx;generalize ([([Ls[i],Ls[k]],[],[],[],()),([],[],[],[Ss[i],Ss[k]],()),(((Ls.take (i+1)).drop i),[],[],((Ss.take (k+1)).drop k),()),([],[Rs[i],Rs[k]],[],[],())]:List HeldT)=hsx at hrx hox hlx hlz;refine S.region rfl<|O.q 1 rfl<|O.nil<|S.block<|S.loopK (ι:=Nat) (fun n=>n≤hsx.length) (fun n=>[(8,.int .i64 (n:Int))]) [(1,_),(2,_),(3,_),(4,_),(5,_),(6,_),(7,_)] (fun n=>[]) (fun n=>hsx.length - n) (0) zG (.cons rfl (.nil)) (.cons rfl (.cons rfl (.cons rfl (.cons rfl (.cons rfl (.cons rfl (.cons rfl (.nil)))))))) rfl fun n hx ih=>?_;have hm3:=meltRefl (g:=g);refine S.seq<|S.seq<|S.region rfl<|O.q 2 rfl<|O.op (.p rfl) (.len rfl underlying45 rfl)<|O.op (.p rfl) (.lss rfl rfl)<|O.nil ?_
     first|refine S.condD rfl (fun h126=>?_) (fun h126=>?_)|refine S.condB rfl (fun h126=>?_) (fun h126=>?_)
     ·have hnx:n<hsx.length:=by omega
      have hoy:=hox _ (List.getElem_mem hnx);refine S.skip<|S.seq<|S.block<|S.seq<|S.region rfl<|O.q 2 rfl<|O.ia (.p rfl) underlying45 size27 rfl rfl rfl (hrx) (h:=fun p131 cs131 hp131 hr131=>?_)
      skip
      refine O.op (.p rfl) (.loadAgg isAgg27 (by rw [HeldRp.len hr131];kernel_rfl) rfl hp131) ?_;refine O.call0 (.p rfl) rfl zB rfl rfl ((imagePuts_c hr131 hoy)) ?_;rintro _ _ ⟨rfl,rfl⟩
      try simp only [zx1,zx2,zx3]
      refine O.op (.p rfl) (.not rfl)<|O.nil<|S.condF rfl<|S.skip<|S.inBlock<|S.region rfl<|O.q 1 rfl<|O.op (.p rfl) (.add rfl rfl (IntWalk.i64_in _ zD))<|O.q 1 rfl<|O.nil ?_;exact S.wk (ih (n+1) zD zD)
     ·clear ih
      refine S.exit rfl<|S.inBlock<|S.region rfl<|O.q 1 rfl<|O.op (.p rfl) (.add rfl rfl (IntWalk.i64_in _ zD))<|O.q 1 rfl<|O.nil ?_;exact S.melt hm2 (S.wk (ih (k+1) zD zD))
    ·
     refine S.seq<|S.seq<|S.region rfl<|O.q 1 rfl<|O.op (.p rfl) (.lss rfl rfl)<|O.sT 84 rfl (by exact decide_eq_true zD) ?_;refine O.q 2 rfl<|O.op (.g rfl rfl) (.lss rfl rfl)<|O.sF 87 rfl (by exact decide_eq_false zD) ?_;refine O.q 1 rfl<|O.nil<|S.condF rfl<|S.skip<|S.seq<|S.seq<|S.region rfl<|O.q 1 rfl<|O.op (.p rfl) (.lss rfl rfl)<|O.sT 103 rfl (by exact decide_eq_true zD) ?_;refine O.q 2 rfl<|O.op (.g rfl rfl) (.lss rfl rfl)<|O.sF 106 rfl (by exact decide_eq_false zD) ?_;refine O.q 1 rfl<|O.nil<|S.condF rfl<|S.skip<|S.seq<|S.frzA zC fun g hs hm hlx=>?_;replace hg:=Fr.sub_trans hg hs;replace hR:=melted hR hm
     try replace hL:=hL.mono hs
     try replace hL:=hL.mono hs
     try replace hO:=hO.mono hs
     try replace hO:=hO.mono hs
     try replace hE:=hE.mono hs
     try replace hE:=hE.mono hs
     try replace hS:=hS.mono hs
     try replace hS:=hS.mono hs
     try replace hr53:=hr53.mono hs
     try replace hr57:=hr57.mono hs
     try replace ha75:=ha75.mono hs
     try replace ha80:=ha80.mono hs
     try replace h59:=h59.mono hs
     try replace h69:=h69.mono hs
     try replace h59:=h59.mono hs
     try replace h69:=h69.mono hs
     replace hm1:=meltTrans hm1 hm;replace hm2:=meltTrans hm2 hm;clear hs hm;have hrx:=Arr.ofCells (T:=HeldRp) (xs:=[([Ls[i],Ls[k]],[],[],[],()),([],[],[],[Ss[i],Ss[k]],()),(((Ls.take (i+1)).drop i),[],[],((Ss.take (k+1)).drop k),())]) hlx ⟨HeldRp.mk h59 Arr.nil Arr.nil Arr.nil,HeldRp.mk Arr.nil Arr.nil Arr.nil h69,HeldRp.mk ha75 Arr.nil Arr.nil ha80,trivial⟩ rfl;have hox:∀ h∈[([Ls[i],Ls[k]],[],[],[],()),([],[],[],[Ss[i],Ss[k]],()),(((Ls.take (i+1)).drop i),[],[],((Ss.take (k+1)).drop k),())],HeldOk big h:=by
      intro h hh
      simp only [List.mem_cons,List.not_mem_nil,or_false] at hh
      rcases hh with rfl|rfl|rfl
      ·exact m1
      ·exact m2
      ·exact m3
     have hlx:([([Ls[i],Ls[k]],[],[],[],()),([],[],[],[Ss[i],Ss[k]],()),(((Ls.take (i+1)).drop i),[],[],((Ss.take (k+1)).drop k),())]:List HeldT).length=3:=rfl;have hlz:=lenN hrx;generalize ([([Ls[i],Ls[k]],[],[],[],()),([],[],[],[Ss[i],Ss[k]],()),(((Ls.take (i+1)).drop i),[],[],((Ss.take (k+1)).drop k),())]:List HeldT)=hsx at hrx hox hlx hlz;refine S.region rfl<|O.q 1 rfl<|O.nil<|S.block<|S.loopK (ι:=Nat) (fun n=>n≤hsx.length) (fun n=>[(8,.int .i64 (n:Int))]) [(1,_),(2,_),(3,_),(4,_),(5,_),(6,_),(7,_)] (fun n=>[]) (fun n=>hsx.length - n) (0) zG (.cons rfl (.nil)) (.cons rfl (.cons rfl (.cons rfl (.cons rfl (.cons rfl (.cons rfl (.cons rfl (.nil)))))))) rfl fun n hx ih=>?_;have hm3:=meltRefl (g:=g);refine S.seq<|S.seq<|S.region rfl<|O.q 2 rfl<|O.op (.p rfl) (.len rfl underlying45 rfl)<|O.op (.p rfl) (.lss rfl rfl)<|O.nil ?_
     first|refine S.condD rfl (fun h126=>?_) (fun h126=>?_)|refine S.condB rfl (fun h126=>?_) (fun h126=>?_)
     ·have hnx:n<hsx.length:=by omega
      have hoy:=hox _ (List.getElem_mem hnx);refine S.skip<|S.seq<|S.block<|S.seq<|S.region rfl<|O.q 2 rfl<|O.ia (.p rfl) underlying45 size27 rfl rfl rfl (hrx) (h:=fun p131 cs131 hp131 hr131=>?_)
      skip
      refine O.op (.p rfl) (.loadAgg isAgg27 (by rw [HeldRp.len hr131];kernel_rfl) rfl hp131) ?_;refine O.call0 (.p rfl) rfl zB rfl rfl ((imagePuts_c hr131 hoy)) ?_;rintro _ _ ⟨rfl,rfl⟩
      try simp only [zx1,zx2,zx3]
      refine O.op (.p rfl) (.not rfl)<|O.nil<|S.condF rfl<|S.skip<|S.inBlock<|S.region rfl<|O.q 1 rfl<|O.op (.p rfl) (.add rfl rfl (IntWalk.i64_in _ zD))<|O.q 1 rfl<|O.nil ?_;exact S.wk (ih (n+1) zD zD)
     ·clear ih
      refine S.exit rfl<|S.inBlock<|S.region rfl<|O.q 1 rfl<|O.op (.p rfl) (.add rfl rfl (IntWalk.i64_in _ zD))<|O.q 1 rfl<|O.nil ?_;exact S.melt hm2 (S.wk (ih (k+1) zD zD))
   ·rcases (show k<5∨k=5∨k=6 from by omega) with qk|qk|qk
    ·
     refine S.seq<|S.seq<|S.region rfl<|O.q 1 rfl<|O.op (.p rfl) (.lss rfl rfl)<|O.sT 84 rfl (by exact decide_eq_true zD) ?_;refine O.q 2 rfl<|O.op (.g rfl rfl) (.lss rfl rfl)<|O.sT 87 rfl (by exact decide_eq_true zD) ?_;refine O.q 1 rfl<|O.nil<|S.condT rfl<|S.regionD (L:=[0,1,2,3,4,5,6,7,8,9,10,11,12,13]) F.mixed zB ?_;refine OD.q 3 rfl<|OD.ia (.p rfl) underlying23 size52 rfl rfl rfl (hO) (h:=fun p92 cs92 hp92 hr92=>?_)
     skip
     refine .quiet (.p rfl) rfl (fun _=>.loadAgg isAgg52 (by rw [RootRp.len hr92];kernel_rfl) rfl hp92) ?_;refine OD.q 2 rfl<|OD.ia (.p rfl) underlying23 size52 rfl rfl rfl (hO) (h:=fun p96 cs96 hp96 hr96=>?_)
     skip
     refine .quiet (.p rfl) rfl (fun _=>.loadAgg isAgg52 (by rw [RootRp.len hr96];kernel_rfl) rfl hp96) ?_;refine OD.litP (.p rfl) zB (T:=Rp.cells 5) (ys:=[cs92,cs96]) underlying23 elem52 zE rfl rfl ⟨⟨rfl,RootRp.len hr92,RootRp.one hr92⟩,⟨rfl,RootRp.len hr96,RootRp.one hr96⟩,trivial⟩ zE (fun a98 c98=>?_);refine .quiet (.p rfl) rfl (fun _=>.build (cs:=[_,_,_,_]) underlying27 rfl rfl rfl rfl rfl)<|OD.litP (.p rfl) zB (T:=Rp.cells 4) (ys:=[[.slice none 0 0,.slice a98 2 c98,.slice none 0 0,.slice none 0 0]]) underlying45 elem27 zE rfl rfl ⟨⟨rfl,rfl,by first|(simp;done)|(intro v hv;simp [Value.cells] at hv;rcases hv with rfl|rfl<;>rfl)|(refine List.forall_mem_cons.2 ⟨rfl,?_⟩;repeat (first|exact (fun _ h=>absurd h List.not_mem_nil)|refine List.forall_mem_cons.2 ⟨rfl,?_⟩))⟩,trivial⟩ zE (fun a100 c100=>?_);refine OD.appendO (.p rfl) zB (T:=(Rp.cells 4)) underlying45 elem27 zE rfl rfl zC zC zH zH (fun a101 c101=>?_);refine OD.q 1 rfl<|ODx.nil<|S.seq<|S.seq<|S.frz (A:=OwnP (Rp.cells 5) 52 (.slice a98 2 c98) [cs92,cs96]) zC fun g hs hm ⟨_,x',s'⟩=>?_;have h98:=(fun s x=>Arr.mono s (OwnP.arr x)) s' x';clear x' s';replace hg:=Fr.sub_trans hg hs;replace hR:=melted hR hm
     try replace hL:=hL.mono hs
     try replace hL:=hL.mono hs
     try replace hO:=hO.mono hs
     try replace hO:=hO.mono hs
     try replace hE:=hE.mono hs
     try replace hE:=hE.mono hs
     try replace hS:=hS.mono hs
     try replace hS:=hS.mono hs
     try replace hr53:=hr53.mono hs
     try replace hr57:=hr57.mono hs
     try replace ha75:=ha75.mono hs
     try replace ha80:=ha80.mono hs
     try replace h59:=h59.mono hs
     try replace h69:=h69.mono hs
     try replace h59:=h59.mono hs
     try replace h69:=h69.mono hs
     try replace hp92:=hp92.mono hs
     try replace hp96:=hp96.mono hs
     try replace hr92:=hr92.mono hs
     try replace hr96:=hr96.mono hs
     replace hm1:=meltTrans hm1 hm;replace hm2:=meltTrans hm2 hm;clear hs hm;replace h98:Arr RootRp g.h (.slice a98 2 c98) [Rs[i],Rs[k]]:=Arr.ofCells h98 ⟨hr92,hr96,trivial⟩ rfl;refine S.region rfl<|O.q 1 rfl<|O.op (.p rfl) (.lss rfl rfl)<|O.sF 103 rfl (by exact decide_eq_false zD) ?_;refine O.q 4 rfl<|O.nil<|S.condF rfl<|S.skip<|S.seq<|S.frzA zC fun g hs hm hlx=>?_;replace hg:=Fr.sub_trans hg hs;replace hR:=melted hR hm
     try replace hL:=hL.mono hs
     try replace hL:=hL.mono hs
     try replace hO:=hO.mono hs
     try replace hO:=hO.mono hs
     try replace hE:=hE.mono hs
     try replace hE:=hE.mono hs
     try replace hS:=hS.mono hs
     try replace hS:=hS.mono hs
     try replace hr53:=hr53.mono hs
     try replace hr57:=hr57.mono hs
     try replace ha75:=ha75.mono hs
     try replace ha80:=ha80.mono hs
     try replace h59:=h59.mono hs
     try replace h69:=h69.mono hs
     try replace h59:=h59.mono hs
     try replace h69:=h69.mono hs
     try replace hp92:=hp92.mono hs
     try replace hp96:=hp96.mono hs
     try replace hr92:=hr92.mono hs
     try replace hr96:=hr96.mono hs
     try replace h98:=h98.mono hs
     replace hm1:=meltTrans hm1 hm;replace hm2:=meltTrans hm2 hm;clear hs hm;have hrx:=Arr.ofCells (T:=HeldRp) (xs:=[([Ls[i],Ls[k]],[],[],[],()),([],[],[],[Ss[i],Ss[k]],()),(((Ls.take (i+1)).drop i),[],[],((Ss.take (k+1)).drop k),()),([],[Rs[i],Rs[k]],[],[],())]) hlx ⟨HeldRp.mk h59 Arr.nil Arr.nil Arr.nil,HeldRp.mk Arr.nil Arr.nil Arr.nil h69,HeldRp.mk ha75 Arr.nil Arr.nil ha80,HeldRp.mk Arr.nil h98 Arr.nil Arr.nil,trivial⟩ rfl;have hox:∀ h∈[([Ls[i],Ls[k]],[],[],[],()),([],[],[],[Ss[i],Ss[k]],()),(((Ls.take (i+1)).drop i),[],[],((Ss.take (k+1)).drop k),()),([],[Rs[i],Rs[k]],[],[],())],HeldOk big h:=by
      intro h hh
      simp only [List.mem_cons,List.not_mem_nil,or_false] at hh
      rcases hh with rfl|rfl|rfl|rfl
      ·exact m1
      ·exact m2
      ·exact m3
      ·exact (heldK_ok nilM (by subst hhR;exact twoM _ _) nilM zG)
     have hlx:([([Ls[i],Ls[k]],[],[],[],()),([],[],[],[Ss[i],Ss[k]],()),(((Ls.take (i+1)).drop i),[],[],((Ss.take (k+1)).drop k),()),([],[Rs[i],Rs[k]],[],[],())]:List HeldT).length=4:=rfl;have hlz:=lenN hrx;generalize ([([Ls[i],Ls[k]],[],[],[],()),([],[],[],[Ss[i],Ss[k]],()),(((Ls.take (i+1)).drop i),[],[],((Ss.take (k+1)).drop k),()),([],[Rs[i],Rs[k]],[],[],())]:List HeldT)=hsx at hrx hox hlx hlz;refine S.region rfl<|O.q 1 rfl<|O.nil<|S.block<|S.loopK (ι:=Nat) (fun n=>n≤hsx.length) (fun n=>[(8,.int .i64 (n:Int))]) [(1,_),(2,_),(3,_),(4,_),(5,_),(6,_),(7,_)] (fun n=>[]) (fun n=>hsx.length - n) (0) zG (.cons rfl (.nil)) (.cons rfl (.cons rfl (.cons rfl (.cons rfl (.cons rfl (.cons rfl (.cons rfl (.nil)))))))) rfl fun n hx ih=>?_;have hm3:=meltRefl (g:=g);refine S.seq<|S.seq<|S.region rfl<|O.q 2 rfl<|O.op (.p rfl) (.len rfl underlying45 rfl)<|O.op (.p rfl) (.lss rfl rfl)<|O.nil ?_
     first|refine S.condD rfl (fun h126=>?_) (fun h126=>?_)|refine S.condB rfl (fun h126=>?_) (fun h126=>?_)
     ·have hnx:n<hsx.length:=by omega
      have hoy:=hox _ (List.getElem_mem hnx);refine S.skip<|S.seq<|S.block<|S.seq<|S.region rfl<|O.q 2 rfl<|O.ia (.p rfl) underlying45 size27 rfl rfl rfl (hrx) (h:=fun p131 cs131 hp131 hr131=>?_)
      skip
      refine O.op (.p rfl) (.loadAgg isAgg27 (by rw [HeldRp.len hr131];kernel_rfl) rfl hp131) ?_;refine O.call0 (.p rfl) rfl zB rfl rfl ((imagePuts_c hr131 hoy)) ?_;rintro _ _ ⟨rfl,rfl⟩
      try simp only [zx1,zx2,zx3]
      refine O.op (.p rfl) (.not rfl)<|O.nil<|S.condF rfl<|S.skip<|S.inBlock<|S.region rfl<|O.q 1 rfl<|O.op (.p rfl) (.add rfl rfl (IntWalk.i64_in _ zD))<|O.q 1 rfl<|O.nil ?_;exact S.wk (ih (n+1) zD zD)
     ·clear ih
      refine S.exit rfl<|S.inBlock<|S.region rfl<|O.q 1 rfl<|O.op (.p rfl) (.add rfl rfl (IntWalk.i64_in _ zD))<|O.q 1 rfl<|O.nil ?_;exact S.melt hm2 (S.wk (ih (k+1) zD zD))
    ·
     refine S.seq<|S.seq<|S.region rfl<|O.q 1 rfl<|O.op (.p rfl) (.lss rfl rfl)<|O.sT 84 rfl (by exact decide_eq_true zD) ?_;refine O.q 2 rfl<|O.op (.g rfl rfl) (.lss rfl rfl)<|O.sT 87 rfl (by exact decide_eq_true zD) ?_;refine O.q 1 rfl<|O.nil<|S.condT rfl<|S.regionD (L:=[0,1,2,3,4,5,6,7,8,9,10,11,12,13]) F.mixed zB ?_;refine OD.q 3 rfl<|OD.ia (.p rfl) underlying23 size52 rfl rfl rfl (hO) (h:=fun p92 cs92 hp92 hr92=>?_)
     skip
     refine .quiet (.p rfl) rfl (fun _=>.loadAgg isAgg52 (by rw [RootRp.len hr92];kernel_rfl) rfl hp92) ?_;refine OD.q 2 rfl<|OD.ia (.p rfl) underlying23 size52 rfl rfl rfl (hO) (h:=fun p96 cs96 hp96 hr96=>?_)
     skip
     refine .quiet (.p rfl) rfl (fun _=>.loadAgg isAgg52 (by rw [RootRp.len hr96];kernel_rfl) rfl hp96) ?_;refine OD.litP (.p rfl) zB (T:=Rp.cells 5) (ys:=[cs92,cs96]) underlying23 elem52 zE rfl rfl ⟨⟨rfl,RootRp.len hr92,RootRp.one hr92⟩,⟨rfl,RootRp.len hr96,RootRp.one hr96⟩,trivial⟩ zE (fun a98 c98=>?_);refine .quiet (.p rfl) rfl (fun _=>.build (cs:=[_,_,_,_]) underlying27 rfl rfl rfl rfl rfl)<|OD.litP (.p rfl) zB (T:=Rp.cells 4) (ys:=[[.slice none 0 0,.slice a98 2 c98,.slice none 0 0,.slice none 0 0]]) underlying45 elem27 zE rfl rfl ⟨⟨rfl,rfl,by first|(simp;done)|(intro v hv;simp [Value.cells] at hv;rcases hv with rfl|rfl<;>rfl)|(refine List.forall_mem_cons.2 ⟨rfl,?_⟩;repeat (first|exact (fun _ h=>absurd h List.not_mem_nil)|refine List.forall_mem_cons.2 ⟨rfl,?_⟩))⟩,trivial⟩ zE (fun a100 c100=>?_);refine OD.appendO (.p rfl) zB (T:=(Rp.cells 4)) underlying45 elem27 zE rfl rfl zC zC zH zH (fun a101 c101=>?_);refine OD.q 1 rfl<|ODx.nil<|S.seq<|S.seq<|S.frz (A:=OwnP (Rp.cells 5) 52 (.slice a98 2 c98) [cs92,cs96]) zC fun g hs hm ⟨_,x',s'⟩=>?_;have h98:=(fun s x=>Arr.mono s (OwnP.arr x)) s' x';clear x' s';replace hg:=Fr.sub_trans hg hs;replace hR:=melted hR hm
     try replace hL:=hL.mono hs
     try replace hL:=hL.mono hs
     try replace hO:=hO.mono hs
     try replace hO:=hO.mono hs
     try replace hE:=hE.mono hs
     try replace hE:=hE.mono hs
     try replace hS:=hS.mono hs
     try replace hS:=hS.mono hs
     try replace hr53:=hr53.mono hs
     try replace hr57:=hr57.mono hs
     try replace ha75:=ha75.mono hs
     try replace ha80:=ha80.mono hs
     try replace h59:=h59.mono hs
     try replace h69:=h69.mono hs
     try replace h59:=h59.mono hs
     try replace h69:=h69.mono hs
     try replace hp92:=hp92.mono hs
     try replace hp96:=hp96.mono hs
     try replace hr92:=hr92.mono hs
     try replace hr96:=hr96.mono hs
     replace hm1:=meltTrans hm1 hm;replace hm2:=meltTrans hm2 hm;clear hs hm;replace h98:Arr RootRp g.h (.slice a98 2 c98) [Rs[i],Rs[k]]:=Arr.ofCells h98 ⟨hr92,hr96,trivial⟩ rfl;refine S.region rfl<|O.q 1 rfl<|O.op (.p rfl) (.lss rfl rfl)<|O.sF 103 rfl (by exact decide_eq_false zD) ?_;refine O.q 4 rfl<|O.nil<|S.condF rfl<|S.skip<|S.seq<|S.frzA zC fun g hs hm hlx=>?_;replace hg:=Fr.sub_trans hg hs;replace hR:=melted hR hm
     try replace hL:=hL.mono hs
     try replace hL:=hL.mono hs
     try replace hO:=hO.mono hs
     try replace hO:=hO.mono hs
     try replace hE:=hE.mono hs
     try replace hE:=hE.mono hs
     try replace hS:=hS.mono hs
     try replace hS:=hS.mono hs
     try replace hr53:=hr53.mono hs
     try replace hr57:=hr57.mono hs
     try replace ha75:=ha75.mono hs
     try replace ha80:=ha80.mono hs
     try replace h59:=h59.mono hs
     try replace h69:=h69.mono hs
     try replace h59:=h59.mono hs
     try replace h69:=h69.mono hs
     try replace hp92:=hp92.mono hs
     try replace hp96:=hp96.mono hs
     try replace hr92:=hr92.mono hs
     try replace hr96:=hr96.mono hs
     try replace h98:=h98.mono hs
     replace hm1:=meltTrans hm1 hm;replace hm2:=meltTrans hm2 hm;clear hs hm;have hrx:=Arr.ofCells (T:=HeldRp) (xs:=[([Ls[i],Ls[k]],[],[],[],()),([],[],[],[Ss[i],Ss[k]],()),(((Ls.take (i+1)).drop i),[],[],((Ss.take (k+1)).drop k),()),([],[Rs[i],Rs[k]],[],[],())]) hlx ⟨HeldRp.mk h59 Arr.nil Arr.nil Arr.nil,HeldRp.mk Arr.nil Arr.nil Arr.nil h69,HeldRp.mk ha75 Arr.nil Arr.nil ha80,HeldRp.mk Arr.nil h98 Arr.nil Arr.nil,trivial⟩ rfl;have hox:∀ h∈[([Ls[i],Ls[k]],[],[],[],()),([],[],[],[Ss[i],Ss[k]],()),(((Ls.take (i+1)).drop i),[],[],((Ss.take (k+1)).drop k),()),([],[Rs[i],Rs[k]],[],[],())],HeldOk big h:=by
      intro h hh
      simp only [List.mem_cons,List.not_mem_nil,or_false] at hh
      rcases hh with rfl|rfl|rfl|rfl
      ·exact m1
      ·exact m2
      ·exact m3
      ·exact (heldK_ok nilM (by subst hhR;exact twoM _ _) nilM zG)
     have hlx:([([Ls[i],Ls[k]],[],[],[],()),([],[],[],[Ss[i],Ss[k]],()),(((Ls.take (i+1)).drop i),[],[],((Ss.take (k+1)).drop k),()),([],[Rs[i],Rs[k]],[],[],())]:List HeldT).length=4:=rfl;have hlz:=lenN hrx;generalize ([([Ls[i],Ls[k]],[],[],[],()),([],[],[],[Ss[i],Ss[k]],()),(((Ls.take (i+1)).drop i),[],[],((Ss.take (k+1)).drop k),()),([],[Rs[i],Rs[k]],[],[],())]:List HeldT)=hsx at hrx hox hlx hlz;refine S.region rfl<|O.q 1 rfl<|O.nil<|S.block<|S.loopK (ι:=Nat) (fun n=>n≤hsx.length) (fun n=>[(8,.int .i64 (n:Int))]) [(1,_),(2,_),(3,_),(4,_),(5,_),(6,_),(7,_)] (fun n=>[]) (fun n=>hsx.length - n) (0) zG (.cons rfl (.nil)) (.cons rfl (.cons rfl (.cons rfl (.cons rfl (.cons rfl (.cons rfl (.cons rfl (.nil)))))))) rfl fun n hx ih=>?_;have hm3:=meltRefl (g:=g);refine S.seq<|S.seq<|S.region rfl<|O.q 2 rfl<|O.op (.p rfl) (.len rfl underlying45 rfl)<|O.op (.p rfl) (.lss rfl rfl)<|O.nil ?_
     first|refine S.condD rfl (fun h126=>?_) (fun h126=>?_)|refine S.condB rfl (fun h126=>?_) (fun h126=>?_)
     ·have hnx:n<hsx.length:=by omega
      have hoy:=hox _ (List.getElem_mem hnx);refine S.skip<|S.seq<|S.block<|S.seq<|S.region rfl<|O.q 2 rfl<|O.ia (.p rfl) underlying45 size27 rfl rfl rfl (hrx) (h:=fun p131 cs131 hp131 hr131=>?_)
      skip
      refine O.op (.p rfl) (.loadAgg isAgg27 (by rw [HeldRp.len hr131];kernel_rfl) rfl hp131) ?_;refine O.call0 (.p rfl) rfl zB rfl rfl ((imagePuts_c hr131 hoy)) ?_;rintro _ _ ⟨rfl,rfl⟩
      try simp only [zx1,zx2,zx3]
      refine O.op (.p rfl) (.not rfl)<|O.nil<|S.condF rfl<|S.skip<|S.inBlock<|S.region rfl<|O.q 1 rfl<|O.op (.p rfl) (.add rfl rfl (IntWalk.i64_in _ zD))<|O.q 1 rfl<|O.nil ?_;exact S.wk (ih (n+1) zD zD)
     ·clear ih
      refine S.exit rfl<|S.inBlock<|S.region rfl<|O.q 1 rfl<|O.op (.p rfl) (.add rfl rfl (IntWalk.i64_in _ zD))<|O.q 1 rfl<|O.nil ?_;exact S.melt hm2 (S.wk (ih (k+1) zD zD))
    ·
     refine S.seq<|S.seq<|S.region rfl<|O.q 1 rfl<|O.op (.p rfl) (.lss rfl rfl)<|O.sT 84 rfl (by exact decide_eq_true zD) ?_;refine O.q 2 rfl<|O.op (.g rfl rfl) (.lss rfl rfl)<|O.sF 87 rfl (by exact decide_eq_false zD) ?_;refine O.q 1 rfl<|O.nil<|S.condF rfl<|S.skip<|S.seq<|S.seq<|S.region rfl<|O.q 1 rfl<|O.op (.p rfl) (.lss rfl rfl)<|O.sF 103 rfl (by exact decide_eq_false zD) ?_;refine O.q 4 rfl<|O.nil<|S.condF rfl<|S.skip<|S.seq<|S.frzA zC fun g hs hm hlx=>?_;replace hg:=Fr.sub_trans hg hs;replace hR:=melted hR hm
     try replace hL:=hL.mono hs
     try replace hL:=hL.mono hs
     try replace hO:=hO.mono hs
     try replace hO:=hO.mono hs
     try replace hE:=hE.mono hs
     try replace hE:=hE.mono hs
     try replace hS:=hS.mono hs
     try replace hS:=hS.mono hs
     try replace hr53:=hr53.mono hs
     try replace hr57:=hr57.mono hs
     try replace ha75:=ha75.mono hs
     try replace ha80:=ha80.mono hs
     try replace h59:=h59.mono hs
     try replace h69:=h69.mono hs
     try replace h59:=h59.mono hs
     try replace h69:=h69.mono hs
     replace hm1:=meltTrans hm1 hm;replace hm2:=meltTrans hm2 hm;clear hs hm;have hrx:=Arr.ofCells (T:=HeldRp) (xs:=[([Ls[i],Ls[k]],[],[],[],()),([],[],[],[Ss[i],Ss[k]],()),(((Ls.take (i+1)).drop i),[],[],((Ss.take (k+1)).drop k),())]) hlx ⟨HeldRp.mk h59 Arr.nil Arr.nil Arr.nil,HeldRp.mk Arr.nil Arr.nil Arr.nil h69,HeldRp.mk ha75 Arr.nil Arr.nil ha80,trivial⟩ rfl;have hox:∀ h∈[([Ls[i],Ls[k]],[],[],[],()),([],[],[],[Ss[i],Ss[k]],()),(((Ls.take (i+1)).drop i),[],[],((Ss.take (k+1)).drop k),())],HeldOk big h:=by
      intro h hh
      simp only [List.mem_cons,List.not_mem_nil,or_false] at hh
      rcases hh with rfl|rfl|rfl
      ·exact m1
      ·exact m2
      ·exact m3
     have hlx:([([Ls[i],Ls[k]],[],[],[],()),([],[],[],[Ss[i],Ss[k]],()),(((Ls.take (i+1)).drop i),[],[],((Ss.take (k+1)).drop k),())]:List HeldT).length=3:=rfl;have hlz:=lenN hrx;generalize ([([Ls[i],Ls[k]],[],[],[],()),([],[],[],[Ss[i],Ss[k]],()),(((Ls.take (i+1)).drop i),[],[],((Ss.take (k+1)).drop k),())]:List HeldT)=hsx at hrx hox hlx hlz;refine S.region rfl<|O.q 1 rfl<|O.nil<|S.block<|S.loopK (ι:=Nat) (fun n=>n≤hsx.length) (fun n=>[(8,.int .i64 (n:Int))]) [(1,_),(2,_),(3,_),(4,_),(5,_),(6,_),(7,_)] (fun n=>[]) (fun n=>hsx.length - n) (0) zG (.cons rfl (.nil)) (.cons rfl (.cons rfl (.cons rfl (.cons rfl (.cons rfl (.cons rfl (.cons rfl (.nil)))))))) rfl fun n hx ih=>?_;have hm3:=meltRefl (g:=g);refine S.seq<|S.seq<|S.region rfl<|O.q 2 rfl<|O.op (.p rfl) (.len rfl underlying45 rfl)<|O.op (.p rfl) (.lss rfl rfl)<|O.nil ?_
     first|refine S.condD rfl (fun h126=>?_) (fun h126=>?_)|refine S.condB rfl (fun h126=>?_) (fun h126=>?_)
     ·have hnx:n<hsx.length:=by omega
      have hoy:=hox _ (List.getElem_mem hnx);refine S.skip<|S.seq<|S.block<|S.seq<|S.region rfl<|O.q 2 rfl<|O.ia (.p rfl) underlying45 size27 rfl rfl rfl (hrx) (h:=fun p131 cs131 hp131 hr131=>?_)
      skip
      refine O.op (.p rfl) (.loadAgg isAgg27 (by rw [HeldRp.len hr131];kernel_rfl) rfl hp131) ?_;refine O.call0 (.p rfl) rfl zB rfl rfl ((imagePuts_c hr131 hoy)) ?_;rintro _ _ ⟨rfl,rfl⟩
      try simp only [zx1,zx2,zx3]
      refine O.op (.p rfl) (.not rfl)<|O.nil<|S.condF rfl<|S.skip<|S.inBlock<|S.region rfl<|O.q 1 rfl<|O.op (.p rfl) (.add rfl rfl (IntWalk.i64_in _ zD))<|O.q 1 rfl<|O.nil ?_;exact S.wk (ih (n+1) zD zD)
     ·clear ih
      refine S.exit rfl<|S.inBlock<|S.region rfl<|O.q 1 rfl<|O.op (.p rfl) (.add rfl rfl (IntWalk.i64_in _ zD))<|O.q 1 rfl<|O.nil ?_;exact S.melt hm2 (S.wk (ih (k+1) zD zD))
   ·rcases (show k<5∨k=5∨k=6 from by omega) with qk|qk|qk
    ·
     refine S.seq<|S.seq<|S.region rfl<|O.q 1 rfl<|O.op (.p rfl) (.lss rfl rfl)<|O.sF 84 rfl (by exact decide_eq_false zD) ?_;refine O.q 4 rfl<|O.nil<|S.condF rfl<|S.skip<|S.seq<|S.seq<|S.region rfl<|O.q 1 rfl<|O.op (.p rfl) (.lss rfl rfl)<|O.sF 103 rfl (by exact decide_eq_false zD) ?_;refine O.q 4 rfl<|O.nil<|S.condF rfl<|S.skip<|S.seq<|S.frzA zC fun g hs hm hlx=>?_;replace hg:=Fr.sub_trans hg hs;replace hR:=melted hR hm
     try replace hL:=hL.mono hs
     try replace hL:=hL.mono hs
     try replace hO:=hO.mono hs
     try replace hO:=hO.mono hs
     try replace hE:=hE.mono hs
     try replace hE:=hE.mono hs
     try replace hS:=hS.mono hs
     try replace hS:=hS.mono hs
     try replace hr53:=hr53.mono hs
     try replace hr57:=hr57.mono hs
     try replace ha75:=ha75.mono hs
     try replace ha80:=ha80.mono hs
     try replace h59:=h59.mono hs
     try replace h69:=h69.mono hs
     try replace h59:=h59.mono hs
     try replace h69:=h69.mono hs
     replace hm1:=meltTrans hm1 hm;replace hm2:=meltTrans hm2 hm;clear hs hm;have hrx:=Arr.ofCells (T:=HeldRp) (xs:=[([Ls[i],Ls[k]],[],[],[],()),([],[],[],[Ss[i],Ss[k]],()),(((Ls.take (i+1)).drop i),[],[],((Ss.take (k+1)).drop k),())]) hlx ⟨HeldRp.mk h59 Arr.nil Arr.nil Arr.nil,HeldRp.mk Arr.nil Arr.nil Arr.nil h69,HeldRp.mk ha75 Arr.nil Arr.nil ha80,trivial⟩ rfl;have hox:∀ h∈[([Ls[i],Ls[k]],[],[],[],()),([],[],[],[Ss[i],Ss[k]],()),(((Ls.take (i+1)).drop i),[],[],((Ss.take (k+1)).drop k),())],HeldOk big h:=by
      intro h hh
      simp only [List.mem_cons,List.not_mem_nil,or_false] at hh
      rcases hh with rfl|rfl|rfl
      ·exact m1
      ·exact m2
      ·exact m3
     have hlx:([([Ls[i],Ls[k]],[],[],[],()),([],[],[],[Ss[i],Ss[k]],()),(((Ls.take (i+1)).drop i),[],[],((Ss.take (k+1)).drop k),())]:List HeldT).length=3:=rfl;have hlz:=lenN hrx;generalize ([([Ls[i],Ls[k]],[],[],[],()),([],[],[],[Ss[i],Ss[k]],()),(((Ls.take (i+1)).drop i),[],[],((Ss.take (k+1)).drop k),())]:List HeldT)=hsx at hrx hox hlx hlz;refine S.region rfl<|O.q 1 rfl<|O.nil<|S.block<|S.loopK (ι:=Nat) (fun n=>n≤hsx.length) (fun n=>[(8,.int .i64 (n:Int))]) [(1,_),(2,_),(3,_),(4,_),(5,_),(6,_),(7,_)] (fun n=>[]) (fun n=>hsx.length - n) (0) zG (.cons rfl (.nil)) (.cons rfl (.cons rfl (.cons rfl (.cons rfl (.cons rfl (.cons rfl (.cons rfl (.nil)))))))) rfl fun n hx ih=>?_;have hm3:=meltRefl (g:=g);refine S.seq<|S.seq<|S.region rfl<|O.q 2 rfl<|O.op (.p rfl) (.len rfl underlying45 rfl)<|O.op (.p rfl) (.lss rfl rfl)<|O.nil ?_
     first|refine S.condD rfl (fun h126=>?_) (fun h126=>?_)|refine S.condB rfl (fun h126=>?_) (fun h126=>?_)
     ·have hnx:n<hsx.length:=by omega
      have hoy:=hox _ (List.getElem_mem hnx);refine S.skip<|S.seq<|S.block<|S.seq<|S.region rfl<|O.q 2 rfl<|O.ia (.p rfl) underlying45 size27 rfl rfl rfl (hrx) (h:=fun p131 cs131 hp131 hr131=>?_)
      skip
      refine O.op (.p rfl) (.loadAgg isAgg27 (by rw [HeldRp.len hr131];kernel_rfl) rfl hp131) ?_;refine O.call0 (.p rfl) rfl zB rfl rfl ((imagePuts_c hr131 hoy)) ?_;rintro _ _ ⟨rfl,rfl⟩
      try simp only [zx1,zx2,zx3]
      refine O.op (.p rfl) (.not rfl)<|O.nil<|S.condF rfl<|S.skip<|S.inBlock<|S.region rfl<|O.q 1 rfl<|O.op (.p rfl) (.add rfl rfl (IntWalk.i64_in _ zD))<|O.q 1 rfl<|O.nil ?_;exact S.wk (ih (n+1) zD zD)
     ·clear ih
      refine S.exit rfl<|S.inBlock<|S.region rfl<|O.q 1 rfl<|O.op (.p rfl) (.add rfl rfl (IntWalk.i64_in _ zD))<|O.q 1 rfl<|O.nil ?_;exact S.melt hm2 (S.wk (ih (k+1) zD zD))
    ·
     refine S.seq<|S.seq<|S.region rfl<|O.q 1 rfl<|O.op (.p rfl) (.lss rfl rfl)<|O.sF 84 rfl (by exact decide_eq_false zD) ?_;refine O.q 4 rfl<|O.nil<|S.condF rfl<|S.skip<|S.seq<|S.seq<|S.region rfl<|O.q 1 rfl<|O.op (.p rfl) (.lss rfl rfl)<|O.sF 103 rfl (by exact decide_eq_false zD) ?_;refine O.q 4 rfl<|O.nil<|S.condF rfl<|S.skip<|S.seq<|S.frzA zC fun g hs hm hlx=>?_;replace hg:=Fr.sub_trans hg hs;replace hR:=melted hR hm
     try replace hL:=hL.mono hs
     try replace hL:=hL.mono hs
     try replace hO:=hO.mono hs
     try replace hO:=hO.mono hs
     try replace hE:=hE.mono hs
     try replace hE:=hE.mono hs
     try replace hS:=hS.mono hs
     try replace hS:=hS.mono hs
     try replace hr53:=hr53.mono hs
     try replace hr57:=hr57.mono hs
     try replace ha75:=ha75.mono hs
     try replace ha80:=ha80.mono hs
     try replace h59:=h59.mono hs
     try replace h69:=h69.mono hs
     try replace h59:=h59.mono hs
     try replace h69:=h69.mono hs
     replace hm1:=meltTrans hm1 hm;replace hm2:=meltTrans hm2 hm;clear hs hm;have hrx:=Arr.ofCells (T:=HeldRp) (xs:=[([Ls[i],Ls[k]],[],[],[],()),([],[],[],[Ss[i],Ss[k]],()),(((Ls.take (i+1)).drop i),[],[],((Ss.take (k+1)).drop k),())]) hlx ⟨HeldRp.mk h59 Arr.nil Arr.nil Arr.nil,HeldRp.mk Arr.nil Arr.nil Arr.nil h69,HeldRp.mk ha75 Arr.nil Arr.nil ha80,trivial⟩ rfl;have hox:∀ h∈[([Ls[i],Ls[k]],[],[],[],()),([],[],[],[Ss[i],Ss[k]],()),(((Ls.take (i+1)).drop i),[],[],((Ss.take (k+1)).drop k),())],HeldOk big h:=by
      intro h hh
      simp only [List.mem_cons,List.not_mem_nil,or_false] at hh
      rcases hh with rfl|rfl|rfl
      ·exact m1
      ·exact m2
      ·exact m3
     have hlx:([([Ls[i],Ls[k]],[],[],[],()),([],[],[],[Ss[i],Ss[k]],()),(((Ls.take (i+1)).drop i),[],[],((Ss.take (k+1)).drop k),())]:List HeldT).length=3:=rfl;have hlz:=lenN hrx;generalize ([([Ls[i],Ls[k]],[],[],[],()),([],[],[],[Ss[i],Ss[k]],()),(((Ls.take (i+1)).drop i),[],[],((Ss.take (k+1)).drop k),())]:List HeldT)=hsx at hrx hox hlx hlz;refine S.region rfl<|O.q 1 rfl<|O.nil<|S.block<|S.loopK (ι:=Nat) (fun n=>n≤hsx.length) (fun n=>[(8,.int .i64 (n:Int))]) [(1,_),(2,_),(3,_),(4,_),(5,_),(6,_),(7,_)] (fun n=>[]) (fun n=>hsx.length - n) (0) zG (.cons rfl (.nil)) (.cons rfl (.cons rfl (.cons rfl (.cons rfl (.cons rfl (.cons rfl (.cons rfl (.nil)))))))) rfl fun n hx ih=>?_;have hm3:=meltRefl (g:=g);refine S.seq<|S.seq<|S.region rfl<|O.q 2 rfl<|O.op (.p rfl) (.len rfl underlying45 rfl)<|O.op (.p rfl) (.lss rfl rfl)<|O.nil ?_
     first|refine S.condD rfl (fun h126=>?_) (fun h126=>?_)|refine S.condB rfl (fun h126=>?_) (fun h126=>?_)
     ·have hnx:n<hsx.length:=by omega
      have hoy:=hox _ (List.getElem_mem hnx);refine S.skip<|S.seq<|S.block<|S.seq<|S.region rfl<|O.q 2 rfl<|O.ia (.p rfl) underlying45 size27 rfl rfl rfl (hrx) (h:=fun p131 cs131 hp131 hr131=>?_)
      skip
      refine O.op (.p rfl) (.loadAgg isAgg27 (by rw [HeldRp.len hr131];kernel_rfl) rfl hp131) ?_;refine O.call0 (.p rfl) rfl zB rfl rfl ((imagePuts_c hr131 hoy)) ?_;rintro _ _ ⟨rfl,rfl⟩
      try simp only [zx1,zx2,zx3]
      refine O.op (.p rfl) (.not rfl)<|O.nil<|S.condF rfl<|S.skip<|S.inBlock<|S.region rfl<|O.q 1 rfl<|O.op (.p rfl) (.add rfl rfl (IntWalk.i64_in _ zD))<|O.q 1 rfl<|O.nil ?_;exact S.wk (ih (n+1) zD zD)
     ·clear ih
      refine S.exit rfl<|S.inBlock<|S.region rfl<|O.q 1 rfl<|O.op (.p rfl) (.add rfl rfl (IntWalk.i64_in _ zD))<|O.q 1 rfl<|O.nil ?_;exact S.melt hm2 (S.wk (ih (k+1) zD zD))
    ·
     refine S.seq<|S.seq<|S.region rfl<|O.q 1 rfl<|O.op (.p rfl) (.lss rfl rfl)<|O.sF 84 rfl (by exact decide_eq_false zD) ?_;refine O.q 4 rfl<|O.nil<|S.condF rfl<|S.skip<|S.seq<|S.seq<|S.region rfl<|O.q 1 rfl<|O.op (.p rfl) (.lss rfl rfl)<|O.sF 103 rfl (by exact decide_eq_false zD) ?_;refine O.q 4 rfl<|O.nil<|S.condF rfl<|S.skip<|S.seq<|S.frzA zC fun g hs hm hlx=>?_;replace hg:=Fr.sub_trans hg hs;replace hR:=melted hR hm
     try replace hL:=hL.mono hs
     try replace hL:=hL.mono hs
     try replace hO:=hO.mono hs
     try replace hO:=hO.mono hs
     try replace hE:=hE.mono hs
     try replace hE:=hE.mono hs
     try replace hS:=hS.mono hs
     try replace hS:=hS.mono hs
     try replace hr53:=hr53.mono hs
     try replace hr57:=hr57.mono hs
     try replace ha75:=ha75.mono hs
     try replace ha80:=ha80.mono hs
     try replace h59:=h59.mono hs
     try replace h69:=h69.mono hs
     try replace h59:=h59.mono hs
     try replace h69:=h69.mono hs
     replace hm1:=meltTrans hm1 hm;replace hm2:=meltTrans hm2 hm;clear hs hm;have hrx:=Arr.ofCells (T:=HeldRp) (xs:=[([Ls[i],Ls[k]],[],[],[],()),([],[],[],[Ss[i],Ss[k]],()),(((Ls.take (i+1)).drop i),[],[],((Ss.take (k+1)).drop k),())]) hlx ⟨HeldRp.mk h59 Arr.nil Arr.nil Arr.nil,HeldRp.mk Arr.nil Arr.nil Arr.nil h69,HeldRp.mk ha75 Arr.nil Arr.nil ha80,trivial⟩ rfl;have hox:∀ h∈[([Ls[i],Ls[k]],[],[],[],()),([],[],[],[Ss[i],Ss[k]],()),(((Ls.take (i+1)).drop i),[],[],((Ss.take (k+1)).drop k),())],HeldOk big h:=by
      intro h hh
      simp only [List.mem_cons,List.not_mem_nil,or_false] at hh
      rcases hh with rfl|rfl|rfl
      ·exact m1
      ·exact m2
      ·exact m3
     have hlx:([([Ls[i],Ls[k]],[],[],[],()),([],[],[],[Ss[i],Ss[k]],()),(((Ls.take (i+1)).drop i),[],[],((Ss.take (k+1)).drop k),())]:List HeldT).length=3:=rfl;have hlz:=lenN hrx;generalize ([([Ls[i],Ls[k]],[],[],[],()),([],[],[],[Ss[i],Ss[k]],()),(((Ls.take (i+1)).drop i),[],[],((Ss.take (k+1)).drop k),())]:List HeldT)=hsx at hrx hox hlx hlz;refine S.region rfl<|O.q 1 rfl<|O.nil<|S.block<|S.loopK (ι:=Nat) (fun n=>n≤hsx.length) (fun n=>[(8,.int .i64 (n:Int))]) [(1,_),(2,_),(3,_),(4,_),(5,_),(6,_),(7,_)] (fun n=>[]) (fun n=>hsx.length - n) (0) zG (.cons rfl (.nil)) (.cons rfl (.cons rfl (.cons rfl (.cons rfl (.cons rfl (.cons rfl (.cons rfl (.nil)))))))) rfl fun n hx ih=>?_;have hm3:=meltRefl (g:=g);refine S.seq<|S.seq<|S.region rfl<|O.q 2 rfl<|O.op (.p rfl) (.len rfl underlying45 rfl)<|O.op (.p rfl) (.lss rfl rfl)<|O.nil ?_
     first|refine S.condD rfl (fun h126=>?_) (fun h126=>?_)|refine S.condB rfl (fun h126=>?_) (fun h126=>?_)
     ·have hnx:n<hsx.length:=by omega
      have hoy:=hox _ (List.getElem_mem hnx);refine S.skip<|S.seq<|S.block<|S.seq<|S.region rfl<|O.q 2 rfl<|O.ia (.p rfl) underlying45 size27 rfl rfl rfl (hrx) (h:=fun p131 cs131 hp131 hr131=>?_)
      skip
      refine O.op (.p rfl) (.loadAgg isAgg27 (by rw [HeldRp.len hr131];kernel_rfl) rfl hp131) ?_;refine O.call0 (.p rfl) rfl zB rfl rfl ((imagePuts_c hr131 hoy)) ?_;rintro _ _ ⟨rfl,rfl⟩
      try simp only [zx1,zx2,zx3]
      refine O.op (.p rfl) (.not rfl)<|O.nil<|S.condF rfl<|S.skip<|S.inBlock<|S.region rfl<|O.q 1 rfl<|O.op (.p rfl) (.add rfl rfl (IntWalk.i64_in _ zD))<|O.q 1 rfl<|O.nil ?_;exact S.wk (ih (n+1) zD zD)
     ·clear ih
      refine S.exit rfl<|S.inBlock<|S.region rfl<|O.q 1 rfl<|O.op (.p rfl) (.add rfl rfl (IntWalk.i64_in _ zD))<|O.q 1 rfl<|O.nil ?_;exact S.melt hm2 (S.wk (ih (k+1) zD zD))
  ·clear ih
   refine S.exit rfl<|S.inBlock<|S.region rfl<|O.q 1 rfl<|O.op (.p rfl) (.add rfl rfl (IntWalk.i64_in _ zD))<|O.q 1 rfl<|O.nil ?_;exact S.wk (ih (i+1) zD zD)
 ·clear ih
  refine S.exit rfl<|S.seq<|S.region rfl<|O.q 1 rfl<|O.nil<|S.seq<|S.seq<|S.listNil (EvdG tys) 55 ?_;refine S.region rfl<|O.q 1 rfl<|O.nil<|S.block<|S.loopK2 (ι:=Nat) (κ:=Option Addr × Nat) (fun n a=>n≤33) (fun n a=>[(10,.int .i64 (n:Int)),(9,.slice a.1 (manyK n).length a.2)]) [(1,_),(2,_),(3,_)] (fun n a=>[ListP (EvdG tys) 55 (.slice a.1 (manyK n).length a.2) (manyK n)]) (fun n a=>33 - n) (0) ((none,0)) zG (.cons rfl (.cons rfl (.nil))) (.cons rfl (.cons rfl (.cons rfl (.nil)))) rfl fun n a hx ih=>?_;have hm2:=meltRefl (g:=g);refine S.seq<|S.seq<|S.region rfl<|O.q 1 rfl<|O.op (.p rfl) (.lss rfl rfl)<|O.nil ?_
  first|refine S.condD rfl (fun h136=>?_) (fun h136=>?_)|refine S.condB rfl (fun h136=>?_) (fun h136=>?_)
  ·have hn:n<33:=by omega
   have hml:=manyK_length n;refine S.skip<|S.seq<|S.block<|S.listOpen (G:=EvdG tys) (k' :=10) rfl zC fun css hcl=>?_;rw [← hcl];refine S.region rfl<|O.q 2 rfl<|O.op (.p rfl) (.rem rfl rfl zD)<|O.slot 141 (v' :=.int .i64 ((n % 7:Nat):Int)) rfl (by exact congrArg (Value.int .i64) (by rw [Int.tmod_eq_emod_of_nonneg zD];omega)) ?_;refine O.op (.p rfl) (.add rfl rfl (IntWalk.i64_in _ zD))<|O.slot 142 (v' :=.int .i64 (1+((n % 7:Nat):Int))) rfl (by rfl) ?_;refine O.q 1 rfl<|O.op (.p rfl) (.cvt underlying3 underlying5 rfl)<|O.slot 144 (v' :=byteV (UInt8.ofNat n)) rfl (by exact congrArg (Value.int .u8) (by simp [IntKind.wrap,IntKind.bits,IntKind.signed,UInt8.toNat_ofNat'])) ?_;refine O.call0 (.p rfl) rfl zB rfl rfl (evdK_c) ?_;rintro _ _ ⟨a145,c145,d145,e145,p145,q145,s145,u145,rfl,rfl⟩
   try simp only [zx1,zx2,zx3]
   refine O.opE (.p rfl) (.litP (T:=Rp.cells 10) (ys:=[[.int .i64 (1+((n % 7:Nat):Int)),.int .i64 0,.int .i64 1,.slice a145 64 c145,.slice d145 64 e145,.int .i64 (1+((n % 7:Nat):Int)),.int .i64 0,.int .i64 1,.slice p145 64 q145,.slice s145 64 u145]]) underlying24 elem55 zE rfl rfl ⟨⟨rfl,rfl,by first|(simp;done)|(intro v hv;simp [Value.cells] at hv;rcases hv with rfl|rfl<;>rfl)|(refine List.forall_mem_cons.2 ⟨rfl,?_⟩;repeat (first|exact (fun _ h=>absurd h List.not_mem_nil)|refine List.forall_mem_cons.2 ⟨rfl,?_⟩))⟩,trivial⟩ zE) ?_;rintro _ _ ⟨a146,c146,rfl,rfl⟩;refine O.opE (.p rfl) (.appendO (T:=(Rp.cells 10)) underlying24 elem55 zE rfl rfl zC zC zH zH) ?_;rintro _ _ ⟨a147,c147,rfl,rfl⟩;refine O.q 1 rfl<|O.nil<|S.inBlock<|S.foldS (A:=(EvdG tys).own [.int .i64 (1+((n % 7:Nat):Int)),.int .i64 0,.int .i64 1,.slice a145 64 c145,.slice d145 64 e145,.int .i64 (1+((n % 7:Nat):Int)),.int .i64 0,.int .i64 1,.slice p145 64 q145,.slice s145 64 u145] (evdK (1+((n % 7:Nat):Int)) (UInt8.ofNat n))) (bs:=[OwnP Rp.u8 5 (.slice a145 64 c145) (UInt8.ofNat n::List.replicate 63 0),OwnP Rp.u8 5 (.slice d145 64 e145) (List.replicate 64 0),OwnP Rp.u8 5 (.slice p145 64 q145) ((UInt8.ofNat n+1)::List.replicate 63 0),OwnP Rp.u8 5 (.slice s145 64 u145) (List.replicate 64 0)]) zI (fun m h=>EvdG.mk (τ:=tys) zN zM zM zN zM zM h) ?_
   refine S.listPut (G:=EvdG tys) (k' :=10) rfl zC zC zC ?_;rw [← manyK_succ];simp only [List.length_singleton];rw [show css.length+1=(manyK (n+1)).length from by simp [hcl]];refine S.region rfl<|O.q 1 rfl<|O.op (.p rfl) (.add rfl rfl (IntWalk.i64_in _ zD))<|O.q 1 rfl<|O.nil ?_;exact S.pw (ih (n+1) ((a147,c147)) zD zD)
  ·clear ih
   have hn:n=33:=by omega
   subst hn;refine S.frzG (T:=EvdRp) rfl zC fun g hs hm hM=>?_;replace hg:=Fr.sub_trans hg hs;replace hR:=melted hR hm
   try replace hL:=hL.mono hs
   try replace hL:=hL.mono hs
   try replace hO:=hO.mono hs
   try replace hO:=hO.mono hs
   try replace hE:=hE.mono hs
   try replace hE:=hE.mono hs
   try replace hS:=hS.mono hs
   try replace hS:=hS.mono hs
   replace hm1:=meltTrans hm1 hm;replace hm2:=meltTrans hm2 hm;clear hs hm;have hMl:(manyK 33).length=33:=manyK_length 33;have hB1:HeldB ([],[],(manyK 33).take 32,[],()):=⟨⟨by simp,fun _ h=>by cases h⟩,by simp,by simp,by simp⟩;have hB2:HeldB ([],[],manyK 33,[],()):=⟨⟨by simp,fun _ h=>by cases h⟩,by simp,by simp,by simp⟩;have hy1:(imgW ([],[],(manyK 33).take 32,[],())).isSome=true:=by rw [manyK_take zE];exact many_yes
   have hy2:=many_no;have hnum:(Ls.take 2,Rs.take 2,Es.take 1,[1,7],())=numK:=by rw [← hhL,← hhR,← hhE];rfl
   have hnumE:imgErr numK=0:=by simp [imgErr,numK_yes]
   have hob:=numOut_le;refine S.exit rfl<|S.seq<|S.seq<|S.region rfl<|O.q 1 rfl<|O.sliceTo (b:=32) (.p rfl) underlying24 size55 rfl rfl zF zH zH (fun u149 ha149=>?_);obtain ⟨a149,c149,rfl⟩:=ha149.shape;refine O.op (.p rfl) (.build (cs:=[_,_,_,_]) underlying27 rfl rfl rfl rfl rfl)<|O.call0 (.p rfl) rfl zB rfl rfl ((iRight_c (HeldRp.mk Arr.nil Arr.nil ha149 Arr.nil) hB1)) ?_;rintro _ _ ⟨rfl,rfl⟩
   try simp only [zx1,zx2,zx3]
   refine O.sT 151 rfl (by exact hy1) ?_;refine O.op (.p rfl) (.not rfl)<|O.q 2 rfl<|O.op (.g rfl rfl) (.build (cs:=[_,_,_,_]) underlying27 rfl rfl rfl rfl rfl)<|O.call0 (.g rfl rfl) rfl zB rfl rfl ((iRight_c (HeldRp.mk Arr.nil Arr.nil hM Arr.nil) hB2)) ?_;rintro _ _ ⟨rfl,rfl⟩
   try simp only [zx1,zx2,zx3]
   refine O.sF 156 rfl (by exact hy2) ?_;refine O.q 1 rfl<|O.nil<|S.condF rfl<|S.skip<|S.seq<|S.regionD (L:=[0,1,2,3,4,5,6,7,8,9,10,11,12,13]) F.mixed zB<|OD.q 1 rfl<|OD.sliceTo (b:=2) (.p rfl) underlying22 size49 rfl rfl zF zH zH (fun u160 ha160=>?_);obtain ⟨a160,c160,rfl⟩:=ha160.shape;refine OD.q 1 rfl<|OD.sliceTo (b:=2) (.p rfl) underlying23 size52 rfl rfl zF zH zH (fun u162 ha162=>?_);obtain ⟨a162,c162,rfl⟩:=ha162.shape;refine OD.q 1 rfl<|OD.sliceTo (b:=1) (.p rfl) underlying24 size55 rfl rfl zF zH zH (fun u164 ha164=>?_);obtain ⟨a164,c164,rfl⟩:=ha164.shape;refine OD.litP (T:=Rp.i64) (ys:=[1,7]) (.p rfl) zB underlying25 elem3 zE rfl rfl ⟨⟨rfl,by first|assumption|(constructor<;>omega)⟩,⟨rfl,by first|assumption|(constructor<;>omega)⟩,trivial⟩ zE (fun a165 c165=>?_);refine .quiet (.p rfl) rfl (fun _=>.build (cs:=[_,_,_,_]) underlying27 rfl rfl rfl rfl rfl)<|OD.callB (.p rfl) zB rfl zB rfl rfl (bs:=[OwnP Rp.i64 3 (.slice a165 2 c165) [1,7]]) zI (fun m hm hd=>iPut_c (HeldRp.mk ha160.left ha162.left ha164.left (hm.arr.right hd)) (by rw [hnum];exact numB)) ?_;rintro _ _ ⟨a167,c167,rfl,rfl⟩
   try simp only [zx1,zx2,zx3]
   rw [hnum,hnumE];refine OD.q 5 rfl<|ODx.nil (S.seq (S.seq ?_));generalize imgOut numK=ob at hob ⊢;refine S.frzA zC fun g hs hm hbb=>?_;replace hg:=Fr.sub_trans hg hs;replace hR:=melted hR hm
   try replace hL:=hL.mono hs
   try replace hL:=hL.mono hs
   try replace hO:=hO.mono hs
   try replace hO:=hO.mono hs
   try replace hE:=hE.mono hs
   try replace hE:=hE.mono hs
   try replace hS:=hS.mono hs
   try replace hS:=hS.mono hs
   try replace hM:=hM.mono hs
   try replace hM:=hM.mono hs
   try replace ha149:=ha149.mono hs
   try replace ha160:=ha160.mono hs
   try replace ha162:=ha162.mono hs
   try replace ha164:=ha164.mono hs
   replace hm1:=meltTrans hm1 hm;replace hm2:=meltTrans hm2 hm;clear hs hm;refine S.frzA zC fun g hs hm hz7=>?_;replace hg:=Fr.sub_trans hg hs;replace hR:=melted hR hm
   try replace hL:=hL.mono hs
   try replace hL:=hL.mono hs
   try replace hO:=hO.mono hs
   try replace hO:=hO.mono hs
   try replace hE:=hE.mono hs
   try replace hE:=hE.mono hs
   try replace hS:=hS.mono hs
   try replace hS:=hS.mono hs
   try replace hM:=hM.mono hs
   try replace hM:=hM.mono hs
   try replace ha149:=ha149.mono hs
   try replace ha160:=ha160.mono hs
   try replace ha162:=ha162.mono hs
   try replace ha164:=ha164.mono hs
   try replace hbb:=hbb.mono hs
   replace hm1:=meltTrans hm1 hm;replace hm2:=meltTrans hm2 hm;clear hs hm;refine S.region rfl<|O.q 1 rfl<|O.op (.p rfl) (.neq rfl rfl)<|O.sF 171 rfl (by rfl) ?_;refine O.q 2 rfl<|O.call0 (.g rfl rfl) rfl zB rfl rfl ((CopyBytes_c hbb zD)) ?_;rintro _ _ ⟨a174,c174,rfl,rfl⟩
   try simp only [zx1,zx2,zx3]
   refine O.opE (.g rfl rfl) (.litP (T:=Rp.u8) (ys:=[0]) underlying31 elem5 zE rfl rfl ⟨rfl,trivial⟩ zE) ?_;rintro _ _ ⟨a175,c175,rfl,rfl⟩;refine O.opE (.g rfl rfl) (.appendO (T:=Rp.u8) underlying31 elem5 zE rfl rfl zC zC zH zH) ?_;rintro _ _ ⟨a176,c176,rfl,rfl⟩;refine O.frzA zC fun g hs hm ha176=>?_;replace hg:=Fr.sub_trans hg hs;replace hR:=melted hR hm
   try replace hL:=hL.mono hs
   try replace hL:=hL.mono hs
   try replace hO:=hO.mono hs
   try replace hO:=hO.mono hs
   try replace hE:=hE.mono hs
   try replace hE:=hE.mono hs
   try replace hS:=hS.mono hs
   try replace hS:=hS.mono hs
   try replace hM:=hM.mono hs
   try replace hM:=hM.mono hs
   try replace ha149:=ha149.mono hs
   try replace ha160:=ha160.mono hs
   try replace ha162:=ha162.mono hs
   try replace ha164:=ha164.mono hs
   try replace hbb:=hbb.mono hs
   try replace hz7:=hz7.mono hs
   try replace hbb:=hbb.mono hs
   replace hm1:=meltTrans hm1 hm;replace hm2:=meltTrans hm2 hm;clear hs hm;refine O.call0 (.g rfl rfl) rfl zB rfl rfl ((gets_c ha176 zJ)) ?_;rintro _ _ ⟨rfl,rfl⟩
   try simp only [zx1,zx2,zx3]
   refine O.op (.g rfl rfl) (.not rfl)<|O.q 1 rfl<|O.nil<|S.condF rfl<|S.skip<|S.seq<|S.seq<|S.region rfl<|O.q 1 rfl<|O.nil<|S.block<|S.loopK (ι:=Nat) (fun i=>i≤ob.length) (fun i=>[(13,.int .i64 (i:Int))]) [(11,_)] (fun i=>[]) (fun i=>ob.length - i) (0) zG (.cons rfl (.nil)) (.cons rfl (.nil)) rfl fun i hx ih=>?_;have hm3:=meltRefl (g:=g);refine S.seq<|S.seq<|S.region rfl<|O.q 2 rfl<|O.op (.p rfl) (.len rfl underlying31 rfl)<|O.op (.p rfl) (.lss rfl rfl)<|O.nil ?_
   first|refine S.condD rfl (fun h183=>?_) (fun h183=>?_)|refine S.condB rfl (fun h183=>?_) (fun h183=>?_)
   ·have hi:i<ob.length:=by omega
    refine S.skip<|S.seq<|S.block<|S.seq<|S.region rfl<|O.q 1 rfl<|O.call0 (.p rfl) rfl zB rfl rfl ((CopyBytes_c hbb zD)) ?_;rintro _ _ ⟨a187,c187,rfl,rfl⟩
    try simp only [zx1,zx2,zx3]
    refine O.q 1 rfl<|O.nil<|S.seq<|S.region rfl<|O.q 4 rfl<|O.opE (.p rfl) (.idxOwn (T:=Rp.u8) underlying31 size5 rfl rfl rfl zC zR) ?_;rintro _ _ ⟨p192,rfl,hp192,rfl⟩;refine O.op (.p rfl) (.loadOwn flat5 rfl hp192 rfl zC zR ((by rintro _ rfl;rfl))) ?_;refine O.q 1 rfl<|O.op (.p rfl) (.rem rfl rfl zD)<|O.slot 195 (v' :=.int .i64 ((i % 8:Nat):Int)) rfl (by exact congrArg (Value.int .i64) (by rw [Int.tmod_eq_emod_of_nonneg zD];omega)) ?_;refine O.op (.p rfl) (.cvt underlying3 underlying57 rfl)<|O.slot 196 (v' :=.int .u64 ((i % 8:Nat):Int)) rfl (by exact congrArg (Value.int .u64) (by simp [IntKind.wrap,IntKind.bits,IntKind.signed];omega)) ?_;obtain ⟨y,hyy⟩:=wrap_byte (1*2 ^ min ((i % 8:Nat):Int).toNat IntKind.u8.bits);refine O.op (.p rfl) (.shl rfl rfl zD)<|O.slot 197 (v' :=byteV y) rfl (by exact congrArg _ hyy) ?_;obtain ⟨x,hxx⟩:=bits_byte .xor (ob[i].toNat:Int) (y.toNat:Int);refine O.op (.p rfl) (.xor rfl rfl)<|O.slot 198 (v' :=byteV x) rfl (by exact congrArg _ hxx) ?_;refine O.opE (.p rfl) (.idxOwn (T:=Rp.u8) underlying31 size5 rfl rfl rfl zC zR) ?_;rintro _ _ ⟨p199,rfl,hp199,rfl⟩;refine O.opU rfl (.storeOwn size5 rfl hp199 rfl zC zR (show _=_ by rfl:Rp.rel _ _ _ (x))) ?_;refine O.nil<|S.seq<|S.frzA zC fun g hs hm hcp=>?_;replace hg:=Fr.sub_trans hg hs;replace hR:=melted hR hm
    try replace hL:=hL.mono hs
    try replace hL:=hL.mono hs
    try replace hO:=hO.mono hs
    try replace hO:=hO.mono hs
    try replace hE:=hE.mono hs
    try replace hE:=hE.mono hs
    try replace hS:=hS.mono hs
    try replace hS:=hS.mono hs
    try replace hM:=hM.mono hs
    try replace hM:=hM.mono hs
    try replace ha149:=ha149.mono hs
    try replace ha160:=ha160.mono hs
    try replace ha162:=ha162.mono hs
    try replace ha164:=ha164.mono hs
    try replace hbb:=hbb.mono hs
    try replace hz7:=hz7.mono hs
    try replace hbb:=hbb.mono hs
    try replace ha176:=ha176.mono hs
    replace hm1:=meltTrans hm1 hm;replace hm2:=meltTrans hm2 hm;replace hm3:=meltTrans hm3 hm;clear hs hm;refine S.region rfl<|O.q 1 rfl<|O.call0 (.p rfl) rfl zB rfl rfl ((gets_c hcp zJ)) ?_;rintro _ _ ⟨rfl,rfl⟩
    try simp only [zx1,zx2,zx3]
    refine O.op (.p rfl) (.not rfl)<|O.q 2 rfl<|O.op (.g rfl rfl) (.rem rfl rfl zD)<|O.op (.g rfl rfl) (.eql rfl rfl)<|O.q 1 rfl ?_
    first|refine O.caseD 207 rfl (fun h207=>?_) (fun h207=>?_)|refine O.caseB 207 rfl (fun h207=>?_) (fun h207=>?_)
    ·refine O.q 2 rfl<|O.sliceTo (b:=i) (.g rfl rfl) underlying31 size5 rfl rfl zF zH zH (fun u210 ha210=>?_)
     obtain ⟨a210,c210,rfl⟩:=ha210.shape;refine O.call0 (.g rfl rfl) rfl zB rfl rfl ((gets_c ha210 zJ)) ?_;rintro _ _ ⟨rfl,rfl⟩
     try simp only [zx1,zx2,zx3]
     refine O.op (.g rfl rfl) (.not rfl)<|O.q 2 rfl<|O.nil<|S.condF rfl<|S.skip<|S.inBlock<|S.region rfl<|O.q 1 rfl<|O.op (.p rfl) (.add rfl rfl (IntWalk.i64_in _ zD))<|O.q 1 rfl<|O.nil ?_;exact S.melt hm3 (S.wk (ih (i+1) zD zD))
    ·refine O.q 7 rfl<|O.nil<|S.condF rfl<|S.skip<|S.inBlock<|S.region rfl<|O.q 1 rfl<|O.op (.p rfl) (.add rfl rfl (IntWalk.i64_in _ zD))<|O.q 1 rfl<|O.nil ?_
     exact S.melt hm3 (S.wk (ih (i+1) zD zD))
   ·clear ih
    refine S.exit rfl<|S.seq<|S.region rfl<|O.call0 (.p rfl) rfl zB rfl rfl ((gets_c Arr.nil zE)) ?_;rintro _ _ ⟨rfl,rfl⟩
    try simp only [zx1,zx2,zx3]
    refine O.q 1 rfl<|O.opE (.g rfl rfl) (.makeP (T:=Rp.u8) (0:UInt8) (m:=32) underlying31 elem5 zE rfl rfl rfl rfl rfl zE zE) ?_;rintro _ _ ⟨a217,c217,rfl,rfl⟩;refine O.frzA zC fun g hs hm ha217=>?_;replace hg:=Fr.sub_trans hg hs;replace hR:=melted hR hm
    try replace hL:=hL.mono hs
    try replace hL:=hL.mono hs
    try replace hO:=hO.mono hs
    try replace hO:=hO.mono hs
    try replace hE:=hE.mono hs
    try replace hE:=hE.mono hs
    try replace hS:=hS.mono hs
    try replace hS:=hS.mono hs
    try replace hM:=hM.mono hs
    try replace hM:=hM.mono hs
    try replace ha149:=ha149.mono hs
    try replace ha160:=ha160.mono hs
    try replace ha162:=ha162.mono hs
    try replace ha164:=ha164.mono hs
    try replace hbb:=hbb.mono hs
    try replace hz7:=hz7.mono hs
    try replace hbb:=hbb.mono hs
    try replace ha176:=ha176.mono hs
    replace hm1:=meltTrans hm1 hm;replace hm2:=meltTrans hm2 hm;replace hm3:=meltTrans hm3 hm;clear hs hm;refine O.call0 (.g rfl rfl) rfl zB rfl rfl ((gets_c ha217 zG)) ?_;rintro _ _ ⟨rfl,rfl⟩
    try simp only [zx1,zx2,zx3]
    refine O.q 2 rfl<|O.opE (.g rfl rfl) (.makeP (T:=Rp.u8) (0:UInt8) (m:=33) underlying31 elem5 zE rfl rfl rfl rfl rfl zE zE) ?_;rintro _ _ ⟨a221,c221,rfl,rfl⟩;refine O.frzA zC fun g hs hm ha221=>?_;replace hg:=Fr.sub_trans hg hs;replace hR:=melted hR hm
    try replace hL:=hL.mono hs
    try replace hL:=hL.mono hs
    try replace hO:=hO.mono hs
    try replace hO:=hO.mono hs
    try replace hE:=hE.mono hs
    try replace hE:=hE.mono hs
    try replace hS:=hS.mono hs
    try replace hS:=hS.mono hs
    try replace hM:=hM.mono hs
    try replace hM:=hM.mono hs
    try replace ha149:=ha149.mono hs
    try replace ha160:=ha160.mono hs
    try replace ha162:=ha162.mono hs
    try replace ha164:=ha164.mono hs
    try replace hbb:=hbb.mono hs
    try replace hz7:=hz7.mono hs
    try replace hbb:=hbb.mono hs
    try replace ha176:=ha176.mono hs
    try replace ha217:=ha217.mono hs
    replace hm1:=meltTrans hm1 hm;replace hm2:=meltTrans hm2 hm;replace hm3:=meltTrans hm3 hm;clear hs hm;refine O.call0 (.g rfl rfl) rfl zB rfl rfl ((gets_c ha221 zG)) ?_;rintro _ _ ⟨rfl,rfl⟩
    try simp only [zx1,zx2,zx3]
    refine O.q 2 rfl<|O.call0 (.g rfl rfl) rfl zB rfl rfl (awake_c) ?_;rintro _ _ ⟨rfl,rfl⟩
    try simp only [zx1,zx2,zx3]
    refine O.q 2 rfl<|O.nil ?_;exact S.rt results5 rfl hR ⟨rfl,rfl⟩
end Go.Proofs.YtodhbhanmdfdeaaGreat
