/- Texts of this proof. -/
import Derived.Test.YtojafegjlahajaaGreatDoorQRef9b
import Derived.Test.YtojafegjlahajaaGreatDoorQRef1b
import Derived.Test.YtojafegjlahajaaGreatDoorQSpProof
open Go Go.Sp Go.Proofs.Tryz
set_option maxRecDepth 100000
set_option maxHeartbeats 1000000
attribute [local irreducible] obj Own OwnP
namespace Go.Proofs.YtojafegjlahajaaGreatDoor
theorem ref_own {r m:Fr} {e:TypeId} {v:Value} {xs:List UInt8} (h:Sat [OwnP Rp.u8 e v xs] m) (hd:r.disj m):Arr Rp.u8 (r.add m) v xs:=(owned_one h).right hd
theorem rSetSum_c {r:Fr} {va:Value} {xs:List RecT} (ha:Arr RecRp r va xs) (hl:xs.length≤1000000) :
  Con prog 21 #[va] r [] (Ret fun v η=>∃ a c,v=.slice a (setD xs).length c∧η=[OwnP Rp.u8 5 (.slice a (setD xs).length c) (setD xs)]):=by
 refine Con.of (n:=16) _ rfl func21 rfl rfl rfl fun g hg R hR=>?_;have ha:=ha.mono hg
 by_cases h1:SRight xs
 ·obtain ⟨e1,e2,e3⟩:=setDY h1
  have hsl:=sB_le h1.1;have e5:=setD_yes h1;refine S.seq<|S.region rfl<|O.q 1 rfl<|O.nil<|S.seq<|S.region rfl<|O.q 1 rfl<|O.call0 (.p rfl) rfl zC rfl rfl ((r9put_c ha hl)) ?_;rintro _ _ ⟨a7,c7,rfl,rfl⟩
  try simp only [zx1,zx2,zx3]
  rw [e2,e3];refine O.q 5 rfl<|O.nil<|S.seq<|S.seq<|S.frzA zD fun g hs hm hb=>?_;replace hg:=Fr.sub_trans hg hs;replace hR:=melted hR hm
  try replace ha:=ha.mono hs
  clear hs hm;refine S.region rfl<|O.q 1 rfl<|O.op (.p rfl) (.neq rfl rfl)<|O.sF 11 rfl zP ?_;refine O.nil<|S.condF rfl<|S.skip<|S.seq<|S.region rfl<|O.opE (.p rfl) (.litP (T:=Rp.u8) (ys:=[5]) underlying24 elem5 zF rfl rfl ⟨rfl,trivial⟩ zF) ?_;rintro _ _ ⟨a12,c12,rfl,rfl⟩;refine O.q 1 rfl<|O.opE (.p rfl) (.appendP (T:=Rp.u8) pure_u8 underlying24 elem5 zF rfl rfl zD (by first|assumption|exact Arr.mono hg zE|exact Arr.left zE|exact Arr.left (Arr.mono hg zE)) zG zG) ?_;rintro _ _ ⟨a14,c14,rfl,rfl⟩;refine O.callB (.p rfl) rfl zC rfl rfl (bs:=[OwnP Rp.u8 5 (.slice a14 ([5].length+(sB xs).length) c14) (5::sB xs)]) zL (fun m hm hd=>r1sum_c (ref_own hm hd) zK) ?_;rintro _ _ ⟨a15,c15,rfl,rfl⟩
  try simp only [zx1,zx2,zx3]
  refine O.q 1 rfl<|O.nil<|S.ownIs (T:=Rp.u8) (e:=5) (v' :=.slice a15 (setD xs).length c15) (xs' :=setD xs) zD (by rw [e5]) e1.symm ?_;exact S.rt results21 rfl hR ⟨a15,c15,by rw [e5],rfl⟩
 ·obtain ⟨e1,e2,e3⟩:=setDN h1
  refine S.seq<|S.region rfl<|O.q 1 rfl<|O.nil<|S.seq<|S.region rfl<|O.q 1 rfl<|O.call0 (.p rfl) rfl zC rfl rfl ((r9put_c ha hl)) ?_;rintro _ _ ⟨a7,c7,rfl,rfl⟩
  try simp only [zx1,zx2,zx3]
  rw [e2,e3];refine O.q 5 rfl<|O.nil<|S.seq<|S.seq<|S.region rfl<|O.q 1 rfl<|O.op (.p rfl) (.neq rfl rfl)<|O.sT 11 rfl zP ?_;refine O.nil<|S.condT rfl<|S.seq<|S.region rfl<|O.q 1 rfl<|O.nil<|S.addNil (T:=Rp.u8) (e:=5) ?_;refine S.ownIs (T:=Rp.u8) (e:=5) (v' :=.slice none (setD xs).length 0) (xs' :=setD xs) zD (by rw [e1];rfl) e1.symm ?_;exact S.rt results21 rfl hR ⟨none,0,by rw [e1];rfl,rfl⟩
theorem stubsB_lenM:∀ {es:List StubT},(∀ e∈es,e.1.length≤64∧e.2.1.length≤64)→(stubsB es).length≤136*es.length
 |[],_=>Nat.zero_le _
 |e::es,h=>by
  have:=stubsB_lenM (es:=es) fun z hz=>h z (by simp [hz]);obtain ⟨h2,h3⟩:=h e zI;have hc:stubsB (e::es)=(bytesOf e.1++e.2.1)++stubsB es:=rfl;rw [hc];simp only [List.length_append,List.length_cons,bytesOf_length];omega
theorem endB_0 {es:List StubT} (h:es.length=0):endB es=[0]:=by rw [List.length_eq_zero_iff.1 h];rfl
theorem endTag_3 {n:Nat} (h:2≤n):endTag n=3:=by
 have:min n 2=2:=by omega
 unfold endTag;rw [this];rfl
theorem rStubs_c {r:Fr} {a1 a2:Option Addr} {c1 c2 n:Nat} {es:List StubT} (hn:es.length=n) (ha:Arr Rp.str r (.slice a1 n c1) (es.map (·.1))) (hb:Arr (Rp.slice Rp.u8) r (.slice a2 n c2) (es.map (·.2.1))) (hs:∀ e∈es,e.1.length≤64∧e.2.1.length≤64) (hl:es.length≤1000000) :
  Con prog 83 #[.slice a1 n c1,.slice a2 n c2] r [] (Ret fun v η=>∃ a c,v=.slice a (endB es).length c∧η=[OwnP Rp.u8 5 (.slice a (endB es).length c) (endB es)]):=by
 subst hn;refine Con.of (n:=37) _ rfl func83 rfl rfl rfl fun g hg R hR=>?_;have ha:=ha.mono hg;have hb:=hb.mono hg
 by_cases h0:es.length=0
 ·have e0:=endB_0 h0
  refine S.seq<|S.region rfl<|O.q 1 rfl<|O.nil<|S.seq<|S.seq<|S.region rfl<|O.q 1 rfl<|O.op (.p rfl) (.len rfl underlying53 rfl)<|O.op (.p rfl) (.eql rfl rfl)<|O.sT 9 rfl (by exact decide_eq_true zB) ?_;refine O.nil<|S.condT rfl<|S.seq<|S.region rfl<|O.opE (.p rfl) (.litP (T:=Rp.u8) (ys:=[0]) underlying24 elem5 zF rfl rfl ⟨rfl,trivial⟩ zF) ?_;rintro _ _ ⟨a10,c10,rfl,rfl⟩;refine O.q 1 rfl<|O.nil<|S.ownIs (T:=Rp.u8) (e:=5) (v' :=.slice a10 (endB es).length c10) (xs' :=endB es) zD (by rw [e0];rfl) e0.symm ?_;exact S.rt results83 rfl hR ⟨a10,c10,by rw [e0];rfl,rfl⟩
 ·
  refine S.seq<|S.region rfl<|O.q 1 rfl<|O.nil<|S.seq<|S.seq<|S.region rfl<|O.q 1 rfl<|O.op (.p rfl) (.len rfl underlying53 rfl)<|O.op (.p rfl) (.eql rfl rfl)<|O.sF 9 rfl (by exact decide_eq_false zB) ?_;refine O.nil<|S.condF rfl<|S.skip<|S.seq<|S.region rfl<|O.opE (.p rfl) (.litP (T:=Rp.u8) (ys:=[3]) underlying24 elem5 zF rfl rfl ⟨rfl,trivial⟩ zF) ?_;rintro _ _ ⟨a11,c11,rfl,rfl⟩;refine O.q 1 rfl<|O.nil<|S.seq<|S.seq<|S.cut2 (fun (x:Option Addr × Nat)=>True) (fun (x:Option Addr × Nat)=>[(5,.slice x.1 (endTag es.length::stubsB (es.take 0)).length x.2)]) [(0,_),(1,_)] (fun (x:Option Addr × Nat)=>[OwnP Rp.u8 5 (.slice x.1 (endTag es.length::stubsB (es.take 0)).length x.2) (endTag es.length::stubsB (es.take 0))]) (.cons rfl (.cons rfl (.nil))) (fun key=>?_) (fun x hx=>?_)
  ·have hm1:=meltRefl (g:=g)
   by_cases g1:es.length=1
   ·have e1:endTag es.length::stubsB (es.take 0)=[1]:=by rw [g1];rfl
    rw [e1] at key;refine S.region rfl<|O.q 1 rfl<|O.op (.p rfl) (.len rfl underlying53 rfl)<|O.op (.p rfl) (.eql rfl rfl)<|O.sT 14 rfl (by exact decide_eq_true zB) ?_;refine O.nil<|S.condT rfl<|S.region rfl<|O.q 1 rfl<|O.opE (.p rfl) (.idxOwn (T:=Rp.u8) underlying24 size5 rfl rfl (show _=((0:Nat):Int) from rfl) zD zT) ?_;rintro _ _ ⟨p16,rfl,hp16,rfl⟩;refine O.opU rfl (.storeOwn size5 rfl hp16 rfl zD zT (show _=_ by rfl:Rp.rel _ _ _ ((1:UInt8)))) ?_;refine O.nil<|S.pk ?_ (S.weaken ?_ (key ((a11,c11)) (by trivial)))
    ·repeat (first|exact zpa|exact zpn|(apply zpc;focus (repeat (first|exact zh|apply zt)))|apply zps)
    repeat (first|exact Sub.nil|refine Sub.cons rfl ?_)
   ·have e1:endTag es.length::stubsB (es.take 0)=[3]:=by rw [endTag_3 zB];rfl
    rw [e1] at key;refine S.region rfl<|O.q 1 rfl<|O.op (.p rfl) (.len rfl underlying53 rfl)<|O.op (.p rfl) (.eql rfl rfl)<|O.sF 14 rfl (by exact decide_eq_false zB) ?_;refine O.nil<|S.condF rfl<|S.skip<|S.pk ?_ (S.weaken ?_ (key ((a11,c11)) (by trivial)))
    ·repeat (first|exact zpa|exact zpn|(apply zpc;focus (repeat (first|exact zh|apply zt)))|apply zps)
    repeat (first|exact Sub.nil|refine Sub.cons rfl ?_)
  ·refine S.seq<|S.seq<|S.region rfl<|O.q 1 rfl<|O.nil<|S.block<|S.loopK2 (ι:=Nat) (κ:=Option Addr × Nat) (fun k s=>k≤es.length) (fun k s=>[(6,.int .i64 (k:Int)),(5,.slice s.1 (endTag es.length::stubsB (es.take k)).length s.2)]) [(0,_),(1,_)] (fun k s=>[OwnP Rp.u8 5 (.slice s.1 (endTag es.length::stubsB (es.take k)).length s.2) (endTag es.length::stubsB (es.take k))]) (fun k s=>es.length - k) (0) (x) zI (.cons rfl (.cons rfl (.nil))) (.cons rfl (.cons rfl (.nil))) rfl fun k s hx ih=>?_
   have hm1:=meltRefl (g:=g);refine S.seq<|S.seq<|S.region rfl<|O.q 2 rfl<|O.op (.p rfl) (.len rfl underlying53 rfl)<|O.op (.p rfl) (.lss rfl rfl)<|O.nil ?_
   first|refine S.condD rfl (fun h20=>?_) (fun h20=>?_)|refine S.condB rfl (fun h20=>?_) (fun h20=>?_)
   ·have hk:k<es.length:=by omega
    have hz:=hs _ (List.getElem_mem hk);have hsn:=stubsB_snoc hk;have hrk:=stubsB_lenM (es:=es.take k) fun z hz=>hs z (List.mem_of_mem_take hz);have htk:(es.take k).length=k:=by rw [List.length_take];omega
    have hk1:k<(es.map (·.1)).length:=by rw [List.length_map];exact hk
    have hk2:k<(es.map (·.2.1)).length:=by rw [List.length_map];exact hk
    have g1:(es.map (·.1))[k]=es[k].1:=List.getElem_map ..;have g2:(es.map (·.2.1))[k]=es[k].2.1:=List.getElem_map ..;generalize hO:endTag es.length::stubsB (es.take k)=Oz;have hOl:Oz.length≤200000000:=by rw [← hO,List.length_cons];rw [htk] at hrk;omega
    generalize es[k]=z at *;obtain ⟨hz1,hz2⟩:=hz;refine S.skip<|S.seq<|S.block<|S.regionD (L:=[0,1,2,3,4,7,8,9,10,5,6,11,12,13]) F.mixed zC<|OD.q 3 rfl<|OD.ia (.p rfl) underlying53 size9 rfl rfl rfl (ha) (h:=fun p26 cs26 hp26 hr26=>?_);rw [g1] at hr26;obtain ⟨rfl,_⟩:=hr26;refine .quiet (.p rfl) rfl (fun _=>.loadAt flat9 rfl hp26 rfl) ?_;refine OD.q 2 rfl<|OD.ia (.p rfl) underlying109 size24 rfl rfl rfl (hb) (h:=fun p32 cs32 hp32 hr32=>?_);rw [g2] at hr32;obtain ⟨v32,rfl,q32⟩:=hr32;obtain ⟨a32,c32,rfl⟩:=q32.shape;refine .quiet (.p rfl) rfl (fun _=>.loadAt flat24 rfl hp32 rfl) ?_;refine OD.strBytesO (.p rfl) zC underlying9 underlying24 underlying5 rfl zW (fun a28 c28=>?_);refine OD.callB (.p rfl) zC rfl zC rfl rfl (bs:=[OwnP Rp.u8 5 (.slice a28 z.1.length c28) z.1]) zL (fun m hm hd=>refBytes_c (ref_own hm hd) zB) ?_;rintro _ _ ⟨a29,c29,rfl,rfl⟩
    try simp only [zx1,zx2,zx3]
    refine OD.litP (.p rfl) zC (T:=Rp.val) (ys:=[.slice s.1 Oz.length s.2,.slice a29 (bytesOf z.1).length c29,.slice a32 z.2.1.length c32]) underlying109 elem24 zF rfl rfl ⟨⟨rfl,rfl⟩,⟨rfl,rfl⟩,⟨rfl,rfl⟩,trivial⟩ zF (fun a34 c34=>?_);refine OD.callB (.p rfl) zC rfl zC rfl rfl (bs:=[OwnP Rp.val 24 (.slice a34 3 c34) [.slice s.1 Oz.length s.2,.slice a29 (bytesOf z.1).length c29,.slice a32 z.2.1.length c32],OwnP Rp.u8 5 (.slice s.1 Oz.length s.2) Oz,OwnP Rp.u8 5 (.slice a29 (bytesOf z.1).length c29) (bytesOf z.1)]) zL (fun m hm hd=>refJoin_c (xss:=[Oz,bytesOf z.1,z.2.1]) ((hm.arr.right hd).rows ⟨hm.tail.arr.right hd,hm.tail.tail.arr.right hd,q32.left,trivial⟩) (by simp only [List.flatten_cons,List.flatten_nil,List.append_nil,List.length_append,bytesOf_length];omega)) ?_;rintro _ _ ⟨a35,c35,rfl,rfl⟩
    try simp only [zx1,zx2,zx3]
    refine OD.q 1 rfl<|ODx.nil (S.inBlock ?_);have e2:[Oz,bytesOf z.1,z.2.1].flatten=endTag es.length::stubsB (es.take (k+1)):=by rw [hsn,← hO];simp
    refine S.ownIs (T:=Rp.u8) (e:=5) (v' :=.slice a35 (endTag es.length::stubsB (es.take (k+1))).length c35) (xs' :=endTag es.length::stubsB (es.take (k+1))) zD (by rw [e2]) e2 ?_;refine S.slot 5 (v' :=.slice a35 (endTag es.length::stubsB (es.take (k+1))).length c35) rfl (by rw [e2]) ?_;refine S.region rfl<|O.q 1 rfl<|O.op (.p rfl) (.add rfl rfl (IntWalk.i64_in _ zB))<|O.q 1 rfl<|O.nil ?_;exact S.pw (ih (k+1) ((a35,c35)) zB zB)
   ·clear ih
    have hk:k=es.length:=by omega
    subst hk;rw [List.take_length];refine S.exit rfl<|S.seq<|S.region rfl<|O.q 2 rfl<|O.nil ?_;exact S.rt results83 rfl hR ⟨s.1,s.2,rfl,rfl⟩
noncomputable def leafStubs (l:List LeafT):List StubT:=l.map fun y=>(y.1,setD y.2.1,())
theorem leafStubs_len (l:List LeafT):(leafStubs l).length=l.length:=List.length_map ..
theorem leafStubs_1 (l:List LeafT):(leafStubs l).map (·.1)=l.map (·.1):=by unfold leafStubs;rw [List.map_map];rfl
theorem leafStubs_2 (l:List LeafT):(leafStubs l).map (·.2.1)=l.map fun y=>setD y.2.1:=by unfold leafStubs;rw [List.map_map];rfl
theorem leafParts_stubs:∀ l:List LeafT,(leafParts l).flatten=stubsB (leafStubs l)
 |[]=>rfl
 |y::l=>by
  have h1:leafParts (y::l)=[bytesOf y.1,setD y.2.1]++leafParts l:=rfl;have h2:stubsB (leafStubs (y::l))=(bytesOf y.1++setD y.2.1)++stubsB (leafStubs l):=rfl;rw [h1,h2,List.flatten_append,leafParts_stubs l];simp
theorem nodeSum_stubs {x:NodeT} (h:nodeOk x) (h3:x.1≠3):nodeSumP x=shaSum (endB (leafStubs x.2.2.2.1)):=by
 rw [nodeSumY h];have ht:nodeTag x.1=endTag x.2.2.2.1.length∧x.2.1=[]∧x.2.2.1=[]:=by
  rcases h.2 with q|q|q|q
  ·rw [q.1,q.2.2.2];exact ⟨rfl,q.2.1,q.2.2.1⟩
  ·rw [q.1,q.2.2.2];exact ⟨rfl,q.2.1,q.2.2.1⟩
  ·exact absurd q.1 h3
  ·rw [q.1,endTag_3 q.2.2.2];exact ⟨rfl,q.2.1,q.2.2.1⟩
 congr 1
 unfold nodeParts endB;rw [ht.1,ht.2.1,ht.2.2,leafStubs_len,List.flatten_append,leafParts_stubs]
 simp
theorem nodeSum_split {x:NodeT} (h:nodeOk x) (h3:x.1=3):nodeSumP x=shaSum [[2],x.2.1,x.2.2.1].flatten∧x.2.1.length=64∧x.2.2.1.length=64:=by
 rw [nodeSumY h];have hq:x.2.1.length=64∧x.2.2.1.length=64∧x.2.2.2.1=[]:=by
  rcases h.2 with q|q|q|q
  ·rw [q.1] at h3;exact absurd h3 zF
  ·rw [q.1] at h3;exact absurd h3 zF
  ·exact ⟨q.2.1,q.2.2.1,q.2.2.2⟩
  ·rw [q.1] at h3;exact absurd h3 zF
 unfold nodeParts;rw [hq.2.2,h3];exact ⟨rfl,hq.1,hq.2.1⟩
theorem leafStubs_ok {l:List LeafT} (h:∀ x∈l,leafOk x):∀ e∈leafStubs l,e.1.length≤64∧e.2.1.length≤64:=fun e he=>by
 obtain ⟨y,hy,rfl⟩:=List.mem_map.1 he;exact ⟨(leafOk_iff.1 (h y hy)).1.2,setD_len _⟩
theorem endB_lenM {es:List StubT} (h:∀ e∈es,e.1.length≤64∧e.2.1.length≤64):(endB es).length≤136*es.length+1:=by
 have:=stubsB_lenM h;unfold endB;rw [List.length_cons];omega
theorem each_map {e:TypeId} {vs:List Value} {xs:List (List UInt8)} {m k:Fr} (s:m.sub k) (x:EachP (OwnP Rp.u8 e) vs xs m):All2 (Arr Rp.u8 k) vs xs:=each_arr s x
theorem rNodeSum_c {r:Fr} {cs:List Value} {x:NodeT} (h:NodeRp.rel r cs x) (hx0:x.2.1.length≤1000000000000∧x.2.2.1.length≤1000000000000) (hx2:x.2.2.2.1.length≤1000000∧∀ y∈x.2.2.2.1,y.2.1.length≤1000000) :
  Con prog 23 #[.agg cs.toArray] r [] (Ret fun v η=>∃ a c,v=.slice a (nodeSumP x).length c∧η=[OwnP Rp.u8 5 (.slice a (nodeSumP x).length c) (nodeSumP x)]):=by
 have h0:=h;obtain ⟨a1,a2,a3,c1,c2,c3,rfl,k1,k2,k3⟩:=NodeRp.sh h;have hx3:∀ y∈x.2.2.2.1,y.2.1.length≤1000000000:=fun y hy=>by have:=hx2.2 y hy;omega
 refine Con.of (n:=52) _ rfl func23 rfl rfl rfl fun g hg R hR=>?_;have h:=h.mono hg;have h0:=h0.mono hg;have k1:=k1.mono hg;have k2:=k2.mono hg;have k3:=k3.mono hg;have hb:=k3.bound;refine S.seq<|S.region rfl<|O.opE (.p rfl) (.box (cs:=[_,_,_,_]) rfl rfl) ?_;rintro _ _ ⟨b1,rfl,rfl⟩;refine O.q 1 rfl<|O.nil<|S.seq<|S.seq<|S.objIs (b:=b1) (cs' :=[byteV x.1,.slice a1 x.2.1.length c1,.slice a2 x.2.2.1.length c2,.slice a3 x.2.2.2.1.length c3]) zD rfl ?_;refine S.frzO zD fun g hs hm h1=>?_;replace hg:=Fr.sub_trans hg hs;replace hR:=melted hR hm
 try replace h:=h.mono hs
 try replace h0:=h0.mono hs
 try replace k1:=k1.mono hs
 try replace k2:=k2.mono hs
 try replace k3:=k3.mono hs
 clear hs hm
 by_cases e:nodeOk x
 ·by_cases g3:x.1=3
  ·obtain ⟨es,el,er⟩:=nodeSum_split e g3
   have e2:(nodeSumP x).length=64:=(nodeSum_64 x).2 e;refine S.region rfl<|O.op (.p rfl) (.loadAgg isAgg27 zC rfl h1) ?_;refine O.call0 (.p rfl) rfl zC rfl rfl ((r12right_c h0 hx3)) ?_;rintro _ _ ⟨rfl,rfl⟩
   try simp only [zx1,zx2,zx3]
   refine O.sT 8 rfl (by exact decide_eq_true e) ?_;refine O.op (.p rfl) (.not rfl)<|O.nil<|S.condF rfl<|S.skip<|S.seq<|S.seq<|S.region rfl<|O.op (.p rfl) (.fieldAddr fld27x0 rfl)<|O.op (.p rfl) (.loadAt flat23 rfl h1 rfl) ?_;refine O.op (.p rfl) (.eql rfl rfl)<|O.sT 12 rfl (by rw [g3];rfl) ?_;refine O.nil<|S.condT rfl<|S.seq<|S.region rfl<|O.opE (.p rfl) (.litP (T:=Rp.u8) (ys:=[2]) underlying24 elem5 zF rfl rfl ⟨rfl,trivial⟩ zF) ?_;rintro _ _ ⟨a13,c13,rfl,rfl⟩;refine O.frzA zD fun g hs hm ha13=>?_;replace hg:=Fr.sub_trans hg hs;replace hR:=melted hR hm
   try replace h:=h.mono hs
   try replace h0:=h0.mono hs
   try replace k1:=k1.mono hs
   try replace k2:=k2.mono hs
   try replace k3:=k3.mono hs
   try replace h1:=h1.mono hs
   clear hs hm;refine O.op (.p rfl) (.fieldAddr fld27x1 rfl)<|O.op (.p rfl) (.loadAt flat24 rfl (h1.drop 1) rfl) ?_;refine O.op (.p rfl) (.fieldAddr fld27x2 rfl)<|O.op (.p rfl) (.loadAt flat24 rfl (h1.drop 2) rfl) ?_;refine O.opE (.p rfl) (.litP (T:=Rp.cells 1) (ys:=[[.slice a13 1 c13],[.slice a1 x.2.1.length c1],[.slice a2 x.2.2.1.length c2]]) underlying109 elem24 zF rfl rfl ⟨⟨rfl,rfl,by first|(simp;done)|(intro v hv;simp [Value.cells] at hv;rcases hv with rfl|rfl<;>rfl)|(refine List.forall_mem_cons.2 ⟨rfl,?_⟩;repeat (first|exact (fun _ h=>absurd h List.not_mem_nil)|refine List.forall_mem_cons.2 ⟨rfl,?_⟩))⟩,⟨rfl,rfl,by first|(simp;done)|(intro v hv;simp [Value.cells] at hv;rcases hv with rfl|rfl<;>rfl)|(refine List.forall_mem_cons.2 ⟨rfl,?_⟩;repeat (first|exact (fun _ h=>absurd h List.not_mem_nil)|refine List.forall_mem_cons.2 ⟨rfl,?_⟩))⟩,⟨rfl,rfl,by first|(simp;done)|(intro v hv;simp [Value.cells] at hv;rcases hv with rfl|rfl<;>rfl)|(refine List.forall_mem_cons.2 ⟨rfl,?_⟩;repeat (first|exact (fun _ h=>absurd h List.not_mem_nil)|refine List.forall_mem_cons.2 ⟨rfl,?_⟩))⟩,trivial⟩ zF) ?_;rintro _ _ ⟨a18,c18,rfl,rfl⟩;refine O.frzA zD fun g hs hm ha18=>?_;replace hg:=Fr.sub_trans hg hs;replace hR:=melted hR hm
   try replace h:=h.mono hs
   try replace h0:=h0.mono hs
   try replace k1:=k1.mono hs
   try replace k2:=k2.mono hs
   try replace k3:=k3.mono hs
   try replace h1:=h1.mono hs
   try replace ha13:=ha13.mono hs
   clear hs hm;refine O.call0 (.p rfl) rfl zC rfl rfl ((refJoin_c (xss:=[[2],x.2.1,x.2.2.1]) (Arr.ofCells ha18 ⟨⟨_,rfl,ha13⟩,⟨_,rfl,k1⟩,⟨_,rfl,k2⟩,trivial⟩ rfl) zK)) ?_;rintro _ _ ⟨a19,c19,rfl,rfl⟩
   try simp only [zx1,zx2,zx3]
   refine O.callB (.p rfl) rfl zC rfl rfl (bs:=[OwnP Rp.u8 5 (.slice a19 [[2],x.2.1,x.2.2.1].flatten.length c19) [[2],x.2.1,x.2.2.1].flatten]) zL (fun m hm hd=>r1sum_c (ref_own hm hd) zK) ?_;rintro _ _ ⟨a20,c20,rfl,rfl⟩
   try simp only [zx1,zx2,zx3]
   refine O.q 1 rfl<|O.nil<|S.ownIs (T:=Rp.u8) (e:=5) (v' :=.slice a20 (nodeSumP x).length c20) (xs' :=nodeSumP x) zD (by rw [e2]) es.symm ?_;exact S.rt results23 rfl hR ⟨a20,c20,by rw [e2],rfl⟩
  ·have es:=nodeSum_stubs e g3
   have e2:(nodeSumP x).length=64:=(nodeSum_64 x).2 e;have hso:=leafStubs_ok e.1.1;have hel:=endB_lenM hso;have hsl:=leafStubs_len x.2.2.2.1;refine S.region rfl<|O.op (.p rfl) (.loadAgg isAgg27 zC rfl h1) ?_;refine O.call0 (.p rfl) rfl zC rfl rfl ((r12right_c h0 hx3)) ?_;rintro _ _ ⟨rfl,rfl⟩
   try simp only [zx1,zx2,zx3]
   refine O.sT 8 rfl (by exact decide_eq_true e) ?_;refine O.op (.p rfl) (.not rfl)<|O.nil<|S.condF rfl<|S.skip<|S.seq<|S.seq<|S.region rfl<|O.op (.p rfl) (.fieldAddr fld27x0 rfl)<|O.op (.p rfl) (.loadAt flat23 rfl h1 rfl) ?_;refine O.op (.p rfl) (.eql rfl rfl)<|O.sF 12 rfl (by exact decide_eq_false (fun q=>g3 (byte_eq.1 q))) ?_;refine O.nil<|S.condF rfl<|S.skip<|S.seq<|S.region rfl<|O.q 1 rfl<|O.nil<|S.seq<|S.region rfl<|O.q 1 rfl<|O.nil<|S.seq<|S.seq<|S.region rfl<|O.q 1 rfl<|O.nil<|S.block<|S.addNil (T:=Rp.str) (e:=9) ?_;refine S.addNil (T:=Rp.val) (e:=24) ?_;refine S.foldS (A:=EachP (OwnP Rp.u8 5) [] ((x.2.2.2.1.take 0).map fun y=>setD y.2.1)) (bs:=[]) .nil (fun m _=>trivial) ?_;refine S.loopK4 (ι:=Nat) (κ:=Option Addr × Nat) (υ:=Option Addr × Nat) (τ:=List Value) (fun k s u vs=>k≤x.2.2.2.1.length∧vs.length=k) (fun k s u vs=>[(5,.int .i64 (k:Int)),(3,.slice s.1 k s.2),(4,.slice u.1 k u.2)]) [(1,_)] (fun k s u vs=>[EachP (OwnP Rp.u8 5) vs ((x.2.2.2.1.take k).map fun y=>setD y.2.1),OwnP Rp.val 24 (.slice u.1 k u.2) vs,OwnP Rp.str 9 (.slice s.1 k s.2) ((x.2.2.2.1.take k).map (·.1))]) (fun k s u vs=>x.2.2.2.1.length - k) (0) ((none,0)) ((none,0)) ([]) (by exact ⟨by omega,rfl⟩) (.cons rfl (.cons rfl (.cons rfl (.nil)))) (.cons rfl (.nil)) rfl fun k s u vs hx ih=>?_;have hm1:=meltRefl (g:=g);obtain ⟨hx1,hvl⟩:=hx
   refine S.seq<|S.seq<|S.region rfl<|O.q 1 rfl<|O.op (.p rfl) (.fieldAddr fld27x3 rfl)<|O.op (.p rfl) (.loadAt flat25 rfl (h1.drop 3) rfl) ?_;refine O.op (.p rfl) (.len rfl underlying25 rfl)<|O.op (.p rfl) (.lss rfl rfl)<|O.nil ?_
   first|refine S.condD rfl (fun h25=>?_) (fun h25=>?_)|refine S.condB rfl (fun h25=>?_) (fun h25=>?_)
   ·have hk:k<x.2.2.2.1.length:=by omega
    have hset:=hx2.2 _ (List.getElem_mem hk);have hlf:=(leafOk_iff.1 (e.1.1 _ (List.getElem_mem hk))).1.2;have hs1:(x.2.2.2.1.take (k+1)).map (·.1)=(x.2.2.2.1.take k).map (·.1)++[x.2.2.2.1[k].1]:=by rw [List.take_succ_eq_append_getElem hk,List.map_append];rfl
    have hs2:(x.2.2.2.1.take (k+1)).map (fun y=>setD y.2.1)=(x.2.2.2.1.take k).map (fun y=>setD y.2.1)++[setD x.2.2.2.1[k].2.1]:=by rw [List.take_succ_eq_append_getElem hk,List.map_append];rfl
    have htk:((x.2.2.2.1.take k).map (·.1)).length=k:=by rw [List.length_map,List.length_take];omega
    refine S.skip<|S.seq<|S.block<|S.seq<|S.region rfl<|O.q 1 rfl<|O.op (.p rfl) (.fieldAddr fld27x3 rfl)<|O.op (.p rfl) (.loadAt flat25 rfl (h1.drop 3) rfl) ?_;refine O.q 1 rfl<|O.ia (.p rfl) underlying25 size31 rfl rfl rfl (k3) (h:=fun p32 cs32 hp32 hr32=>?_);obtain ⟨l1,m1,rfl,l2,l3⟩:=LeafRp.sh hr32;refine O.op (.p rfl) (.fieldAddr fld31x0 rfl)<|O.op (.p rfl) (.loadAt flat9 rfl hp32 rfl) ?_;refine O.opE (.p rfl) (.litP (T:=Rp.str) (ys:=[_]) underlying53 elem9 zF rfl rfl ⟨⟨rfl,by first|omega|(simp;done)|(simp;omega)|decide⟩,trivial⟩ zF) ?_;rintro _ _ ⟨a35,c35,rfl,rfl⟩;refine O.opE (.p rfl) (.appendO (T:=Rp.str) underlying53 elem9 zF rfl rfl zD zD zG zG) ?_;rintro _ _ ⟨a36,c36,rfl,rfl⟩;refine O.q 1 rfl<|O.nil<|S.seq<|S.region rfl<|O.op (.p rfl) (.fieldAddr fld27x3 rfl)<|O.op (.p rfl) (.loadAt flat25 rfl (h1.drop 3) rfl) ?_;refine O.q 1 rfl<|O.ia (.p rfl) underlying25 size31 rfl rfl rfl (k3) (h:=fun p40 cs40 hp40 hr40=>?_);obtain ⟨n1,o1,rfl,n2,n3⟩:=LeafRp.sh hr40;refine O.op (.p rfl) (.fieldAddr fld31x1 rfl)<|O.op (.p rfl) (.loadAt flat22 rfl (hp40.drop 1) rfl) ?_;refine O.call0 (.p rfl) rfl zC rfl rfl ((rSetSum_c n3 hset)) ?_;rintro _ _ ⟨a43,c43,rfl,rfl⟩
    try simp only [zx1,zx2,zx3]
    refine O.q 1 rfl<|O.nil<|S.region rfl<|O.q 2 rfl<|O.opE (.p rfl) (.litP (T:=Rp.val) (ys:=[_]) underlying109 elem24 zF rfl rfl ⟨⟨rfl,rfl⟩,trivial⟩ zF) ?_;rintro _ _ ⟨a46,c46,rfl,rfl⟩;refine O.opE (.p rfl) (.appendO (T:=Rp.val) underlying109 elem24 zF rfl rfl zD zD zG zG) ?_;rintro _ _ ⟨a47,c47,rfl,rfl⟩;refine O.q 1 rfl<|O.nil<|S.inBlock<|S.each (A:=OwnP Rp.u8 5) (b:=.slice a43 (setD x.2.2.2.1[k].2.1).length c43) (a:=setD x.2.2.2.1[k].2.1) zD zD ?_;rw [← hs2];refine S.ownIs (T:=Rp.str) (e:=9) (v' :=.slice a36 (k+1) c36) (xs' :=(x.2.2.2.1.take (k+1)).map (·.1)) zD (by rw [htk];rfl) hs1.symm ?_;refine S.slot 3 (v' :=.slice a36 (k+1) c36) rfl (by rw [htk];rfl) ?_;refine S.ownIs (T:=Rp.val) (e:=24) (v' :=.slice a47 (k+1) c47) (xs' :=vs++[.slice a43 (setD x.2.2.2.1[k].2.1).length c43]) zD (by rw [hvl];rfl) rfl ?_;refine S.slot 4 (v' :=.slice a47 (k+1) c47) rfl (by rw [hvl];rfl) ?_;refine S.region rfl<|O.q 1 rfl<|O.op (.p rfl) (.add rfl rfl (IntWalk.i64_in _ zB))<|O.q 1 rfl<|O.nil ?_;exact S.pw (ih (k+1) ((a36,c36)) ((a47,c47)) ((vs++[.slice a43 (setD x.2.2.2.1[k].2.1).length c43])) (by exact ⟨by omega,by rw [List.length_append,hvl];rfl⟩) zB)
   ·clear ih
    have hk:k=x.2.2.2.1.length:=by omega
    subst hk;rw [List.take_length];refine S.exit rfl<|S.seq<|S.frzA zD fun g hs hm hpv=>?_;replace hg:=Fr.sub_trans hg hs;replace hR:=melted hR hm
    try replace h:=h.mono hs
    try replace h0:=h0.mono hs
    try replace k1:=k1.mono hs
    try replace k2:=k2.mono hs
    try replace k3:=k3.mono hs
    try replace h1:=h1.mono hs
    replace hm1:=meltTrans hm1 hm;clear hs hm;refine S.frzA zD fun g hs hm hpk=>?_;replace hg:=Fr.sub_trans hg hs;replace hR:=melted hR hm
    try replace h:=h.mono hs
    try replace h0:=h0.mono hs
    try replace k1:=k1.mono hs
    try replace k2:=k2.mono hs
    try replace k3:=k3.mono hs
    try replace h1:=h1.mono hs
    try replace hpv:=hpv.mono hs
    replace hm1:=meltTrans hm1 hm;clear hs hm;refine S.frz (A:=EachP (OwnP Rp.u8 5) vs (x.2.2.2.1.map fun y=>setD y.2.1)) zD fun g hs hm ⟨_,x',s'⟩=>?_;have he:=each_map s' x';clear x' s';replace hg:=Fr.sub_trans hg hs;replace hR:=melted hR hm
    try replace h:=h.mono hs
    try replace h0:=h0.mono hs
    try replace k1:=k1.mono hs
    try replace k2:=k2.mono hs
    try replace k3:=k3.mono hs
    try replace h1:=h1.mono hs
    try replace hpv:=hpv.mono hs
    try replace hpk:=hpk.mono hs
    replace hm1:=meltTrans hm1 hm;clear hs hm;have hk1:Arr Rp.str g.h (.slice s.1 x.2.2.2.1.length s.2) ((leafStubs x.2.2.2.1).map (·.1)):=by rw [leafStubs_1];exact hpk
    have hk2:Arr (Rp.slice Rp.u8) g.h (.slice u.1 x.2.2.2.1.length u.2) ((leafStubs x.2.2.2.1).map (·.2.1)):=by rw [leafStubs_2];exact Arr.rows hpv he
    refine S.region rfl<|O.q 2 rfl<|O.call0 (.p rfl) rfl zC rfl rfl ((rStubs_c hsl hk1 hk2 hso zB)) ?_;rintro _ _ ⟨a50,c50,rfl,rfl⟩
    try simp only [zx1,zx2,zx3]
    refine O.callB (.p rfl) rfl zC rfl rfl (bs:=[OwnP Rp.u8 5 (.slice a50 (endB (leafStubs x.2.2.2.1)).length c50) (endB (leafStubs x.2.2.2.1))]) zL (fun m hm hd=>r1sum_c (ref_own hm hd) zB) ?_;rintro _ _ ⟨a51,c51,rfl,rfl⟩
    try simp only [zx1,zx2,zx3]
    refine O.q 1 rfl<|O.nil<|S.ownIs (T:=Rp.u8) (e:=5) (v' :=.slice a51 (nodeSumP x).length c51) (xs' :=nodeSumP x) zD (by rw [e2]) es.symm ?_;exact S.rt results23 rfl hR ⟨a51,c51,by rw [e2],rfl⟩
 ·have e1:=nodeSumN e
  refine S.region rfl<|O.op (.p rfl) (.loadAgg isAgg27 zC rfl h1) ?_;refine O.call0 (.p rfl) rfl zC rfl rfl ((r12right_c h0 hx3)) ?_;rintro _ _ ⟨rfl,rfl⟩
  try simp only [zx1,zx2,zx3]
  refine O.sF 8 rfl (by exact decide_eq_false e) ?_;refine O.op (.p rfl) (.not rfl)<|O.nil<|S.condT rfl<|S.seq<|S.region rfl<|O.q 1 rfl<|O.nil<|S.addNil (T:=Rp.u8) (e:=5) ?_;refine S.ownIs (T:=Rp.u8) (e:=5) (v' :=.slice none (nodeSumP x).length 0) (xs' :=nodeSumP x) zD (by rw [e1];rfl) e1.symm ?_;exact S.rt results23 rfl hR ⟨none,0,by rw [e1];rfl,rfl⟩
theorem rTopSum_c {r:Fr} {va:Value} {n:List UInt8} {z:Int} (ha:Arr Rp.u8 r va n) (hz:InI64 z) :
  Con prog 25 #[.int .i64 z,va] r [] (Ret fun v η=>∃ a c,v=.slice a (topP z n).length c∧η=[OwnP Rp.u8 5 (.slice a (topP z n).length c) (topP z n)]):=by
 obtain ⟨a1,c1,rfl⟩:=ha.shape;refine Con.of (n:=22) _ rfl func25 rfl rfl rfl fun g hg R hR=>?_;have ha:=ha.mono hg
 by_cases q1:z<0
 ·have e1:topP z n=[]:=by unfold topP;rw [if_neg zB]
  refine S.seq<|S.region rfl<|O.q 1 rfl<|O.nil<|S.seq<|S.seq<|S.region rfl<|O.q 1 rfl<|O.op (.p rfl) (.lss rfl rfl)<|O.sT 6 rfl (by exact decide_eq_true q1) ?_;refine O.q 9 rfl<|O.nil<|S.condT rfl<|S.seq<|S.region rfl<|O.q 1 rfl<|O.nil<|S.addNil (T:=Rp.u8) (e:=5) ?_;refine S.ownIs (T:=Rp.u8) (e:=5) (v' :=.slice none (topP z n).length 0) (xs' :=topP z n) zD (by rw [e1];rfl) e1.symm ?_;exact S.rt results25 rfl hR ⟨none,0,by rw [e1];rfl,rfl⟩
 ·by_cases q2:3<z
  ·have e1:topP z n=[]:=by unfold topP;rw [if_neg zB]
   refine S.seq<|S.region rfl<|O.q 1 rfl<|O.nil<|S.seq<|S.seq<|S.region rfl<|O.q 1 rfl<|O.op (.p rfl) (.lss rfl rfl)<|O.sF 6 rfl (by exact decide_eq_false q1) ?_;refine O.q 2 rfl<|O.op (.g rfl rfl) (.gtr rfl rfl)<|O.sT 9 rfl (by exact decide_eq_true q2) ?_;refine O.q 6 rfl<|O.nil<|S.condT rfl<|S.seq<|S.region rfl<|O.q 1 rfl<|O.nil<|S.addNil (T:=Rp.u8) (e:=5) ?_;refine S.ownIs (T:=Rp.u8) (e:=5) (v' :=.slice none (topP z n).length 0) (xs' :=topP z n) zD (by rw [e1];rfl) e1.symm ?_;exact S.rt results25 rfl hR ⟨none,0,by rw [e1];rfl,rfl⟩
  ·by_cases q3:n.length=64
   ·have e1:topP z n=shaSum (4::Sp.byteOf z::n):=by unfold topP;rw [if_pos ⟨by omega,by omega,q3⟩]
    have e2:(topP z n).length=64:=by rw [e1,shaSum_len]
    refine S.seq<|S.region rfl<|O.q 1 rfl<|O.nil<|S.seq<|S.seq<|S.region rfl<|O.q 1 rfl<|O.op (.p rfl) (.lss rfl rfl)<|O.sF 6 rfl (by exact decide_eq_false q1) ?_;refine O.q 2 rfl<|O.op (.g rfl rfl) (.gtr rfl rfl)<|O.sF 9 rfl (by exact decide_eq_false q2) ?_;refine O.q 3 rfl<|O.op (.g rfl rfl) (.len rfl underlying24 rfl)<|O.op (.g rfl rfl) (.neq rfl rfl)<|O.sF 14 rfl (by exact decide_eq_false zB) ?_;refine O.q 1 rfl<|O.nil<|S.condF rfl<|S.skip<|S.seq<|S.region rfl<|O.q 1 rfl<|O.op (.p rfl) (.cvt underlying3 underlying5 rfl)<|O.slot 17 (v' :=byteV (Sp.byteOf z)) rfl (by exact wrapB z) ?_;refine O.opE (.p rfl) (.litP (T:=Rp.u8) (ys:=[4,Sp.byteOf z]) underlying24 elem5 zF rfl rfl ⟨rfl,rfl,trivial⟩ zF) ?_;rintro _ _ ⟨a18,c18,rfl,rfl⟩;refine O.q 1 rfl<|O.opE (.p rfl) (.appendP (T:=Rp.u8) pure_u8 underlying24 elem5 zF rfl rfl zD (by first|assumption|exact Arr.mono hg zE|exact Arr.left zE|exact Arr.left (Arr.mono hg zE)) zG zG) ?_;rintro _ _ ⟨a20,c20,rfl,rfl⟩;refine O.callB (.p rfl) rfl zC rfl rfl (bs:=[OwnP Rp.u8 5 (.slice a20 ([4,Sp.byteOf z].length+n.length) c20) (4::Sp.byteOf z::n)]) zL (fun m hm hd=>r1sum_c (ref_own hm hd) zK) ?_;rintro _ _ ⟨a21,c21,rfl,rfl⟩
    try simp only [zx1,zx2,zx3]
    refine O.q 1 rfl<|O.nil<|S.ownIs (T:=Rp.u8) (e:=5) (v' :=.slice a21 (topP z n).length c21) (xs' :=topP z n) zD (by rw [e2]) e1.symm ?_;exact S.rt results25 rfl hR ⟨a21,c21,by rw [e2],rfl⟩
   ·have e1:topP z n=[]:=by unfold topP;rw [if_neg zB]
    refine S.seq<|S.region rfl<|O.q 1 rfl<|O.nil<|S.seq<|S.seq<|S.region rfl<|O.q 1 rfl<|O.op (.p rfl) (.lss rfl rfl)<|O.sF 6 rfl (by exact decide_eq_false q1) ?_;refine O.q 2 rfl<|O.op (.g rfl rfl) (.gtr rfl rfl)<|O.sF 9 rfl (by exact decide_eq_false q2) ?_;refine O.q 3 rfl<|O.op (.g rfl rfl) (.len rfl underlying24 rfl)<|O.op (.g rfl rfl) (.neq rfl rfl)<|O.sT 14 rfl (by exact decide_eq_true zB) ?_;refine O.q 1 rfl<|O.nil<|S.condT rfl<|S.seq<|S.region rfl<|O.q 1 rfl<|O.nil<|S.addNil (T:=Rp.u8) (e:=5) ?_;refine S.ownIs (T:=Rp.u8) (e:=5) (v' :=.slice none (topP z n).length 0) (xs' :=topP z n) zD (by rw [e1];rfl) e1.symm ?_;exact S.rt results25 rfl hR ⟨none,0,by rw [e1];rfl,rfl⟩
theorem dot_eq {x y:DotT} (h:(x.1,x.2.1)=(y.1,y.2.1)):x=y:=by
 obtain ⟨a,b,⟨⟩⟩:=x;obtain ⟨c,d,⟨⟩⟩:=y
 simp_all
theorem sameDots_c {r:Fr} {va vb:Value} {xs ys:List DotT} (ha:Arr DotRp r va xs) (hb:Arr DotRp r vb ys) :
  Con prog 154 #[va,vb] r [] (Ret fun v η=>v=.bool (decide (xs=ys))∧η=[]):=by
 have har:=ha;have hbr:=hb;refine Con.of (n:=26) _ rfl func154 rfl rfl rfl fun g hg R hR=>?_;have ha:=ha.mono hg;have hb:=hb.mono hg;have hbd:=ha.bound;obtain ⟨a1,c1,rfl⟩:=ha.shape;obtain ⟨a2,c2,rfl⟩:=hb.shape
 by_cases e0:xs.length=ys.length
 ·
  refine S.seq<|S.region rfl<|O.q 1 rfl<|O.nil<|S.seq<|S.seq<|S.region rfl<|O.q 1 rfl<|O.op (.p rfl) (.len rfl underlying100 rfl)<|O.q 1 rfl<|O.op (.p rfl) (.len rfl underlying100 rfl)<|O.op (.p rfl) (.neq rfl rfl)<|O.sF 10 rfl (by exact decide_eq_false zB) ?_;refine O.nil<|S.condF rfl<|S.skip<|S.seq<|S.seq<|S.region rfl<|O.q 1 rfl<|O.nil<|S.block<|S.loopK (ι:=Nat) (fun i=>i≤xs.length∧xs.take i=ys.take i) (fun i=>[(5,.int .i64 (i:Int))]) [(0,_),(1,_)] (fun i=>[]) (fun i=>xs.length - i) (0) zI (.cons rfl (.nil)) (.cons rfl (.cons rfl (.nil))) rfl fun i hx ih=>?_;have hm1:=meltRefl (g:=g);obtain ⟨hx1,hx2⟩:=hx;refine S.seq<|S.seq<|S.region rfl<|O.q 2 rfl<|O.op (.p rfl) (.len rfl underlying100 rfl)<|O.op (.p rfl) (.lss rfl rfl)<|O.nil ?_
  first|refine S.condD rfl (fun h14=>?_) (fun h14=>?_)|refine S.condB rfl (fun h14=>?_) (fun h14=>?_)
  ·have hi:i<xs.length:=by omega
   have hi2:i<ys.length:=by omega
   by_cases e:xs[i]=ys[i]
   ·
    refine S.skip<|S.seq<|S.block<|S.seq<|S.regionD (L:=[0,1,2,3,4,5,6,7,8]) F.mixed zC<|OD.q 2 rfl<|OD.ib (.p rfl) underlying100 size191 rfl rfl rfl har hg (h:=fun p19 cs19 hp19 hrr19=>?_);have hr19:=Rp.rel.mono hrr19 hg;obtain ⟨rfl,hi19,hj19⟩:=DotRp.open hr19;refine .quiet (.p rfl) rfl (fun _=>.loadAgg isAgg191 zC rfl hp19) ?_;refine OD.q 2 rfl<|OD.ib (.p rfl) underlying100 size191 rfl rfl rfl hbr hg (h:=fun p23 cs23 hp23 hrr23=>?_);have hr23:=Rp.rel.mono hrr23 hg;obtain ⟨rfl,hi23,hj23⟩:=DotRp.open hr23;refine .quiet (.p rfl) rfl (fun _=>.loadAgg isAgg191 zC rfl hp23) ?_;refine .quiet (.p rfl) rfl (fun _=>.neqDot underlying191 underlying3 rfl rfl rfl rfl zF zF zC zC rfl rfl)<|OD.sF 25 rfl (by exact decide_eq_false (not_not_intro (by rw [e]))) ?_;refine ODx.nil<|S.condF rfl<|S.skip<|S.inBlock<|S.region rfl<|O.q 1 rfl<|O.op (.p rfl) (.add rfl rfl (IntWalk.i64_in _ zB))<|O.q 1 rfl<|O.nil ?_;exact S.wk (ih (i+1) (by exact ⟨by omega,take_same hi hi2 hx2 e⟩) zB)
   ·
    refine S.skip<|S.seq<|S.block<|S.seq<|S.regionD (L:=[0,1,2,3,4,5,6,7,8]) F.mixed zC<|OD.q 2 rfl<|OD.ib (.p rfl) underlying100 size191 rfl rfl rfl har hg (h:=fun p19 cs19 hp19 hrr19=>?_);have hr19:=Rp.rel.mono hrr19 hg;obtain ⟨rfl,hi19,hj19⟩:=DotRp.open hr19;refine .quiet (.p rfl) rfl (fun _=>.loadAgg isAgg191 zC rfl hp19) ?_;refine OD.q 2 rfl<|OD.ib (.p rfl) underlying100 size191 rfl rfl rfl hbr hg (h:=fun p23 cs23 hp23 hrr23=>?_);have hr23:=Rp.rel.mono hrr23 hg;obtain ⟨rfl,hi23,hj23⟩:=DotRp.open hr23;refine .quiet (.p rfl) rfl (fun _=>.loadAgg isAgg191 zC rfl hp23) ?_;refine .quiet (.p rfl) rfl (fun _=>.neqDot underlying191 underlying3 rfl rfl rfl rfl zF zF zC zC rfl rfl)<|OD.sT 25 rfl (by exact decide_eq_true (fun q=>e (dot_eq q))) ?_;refine ODx.nil<|S.condT rfl<|S.seq<|S.region rfl<|O.q 1 rfl<|O.nil ?_;exact S.rt results154 rfl hR ⟨congrArg _ (decide_eq_false (not_same hi hi2 e)).symm,rfl⟩
  ·have hi:i=xs.length:=by omega
   clear ih;subst hi;rw [List.take_length,e0,List.take_length] at hx2;refine S.exit rfl<|S.seq<|S.region rfl<|O.q 1 rfl<|O.nil ?_;exact S.rt results154 rfl hR ⟨by simp [hx2],rfl⟩
 ·
  refine S.seq<|S.region rfl<|O.q 1 rfl<|O.nil<|S.seq<|S.seq<|S.region rfl<|O.q 1 rfl<|O.op (.p rfl) (.len rfl underlying100 rfl)<|O.q 1 rfl<|O.op (.p rfl) (.len rfl underlying100 rfl)<|O.op (.p rfl) (.neq rfl rfl)<|O.sT 10 rfl (by exact decide_eq_true zB) ?_;refine O.nil<|S.condT rfl<|S.seq<|S.region rfl<|O.q 1 rfl<|O.nil ?_;exact S.rt results154 rfl hR ⟨congrArg _ (decide_eq_false (fun h=>e0 (by rw [h]))).symm,rfl⟩
theorem sameRecord_eq {x y:RecT} (h0:x.1=y.1) (h1:x.2.1=y.2.1) (h2:x.2.2.1=y.2.2.1) (h3:x.2.2.2.1=y.2.2.2.1) (h4:x.2.2.2.2.1=y.2.2.2.2.1) (h5:x.2.2.2.2.2.1=y.2.2.2.2.2.1) (h6:x.2.2.2.2.2.2.1=y.2.2.2.2.2.2.1):x=y:=by
 obtain ⟨a0,a1,a2,a3,a4,a5,a6,⟨⟩⟩:=x;obtain ⟨b0,b1,b2,b3,b4,b5,b6,⟨⟩⟩:=y
 simp_all
theorem sameRecord_c {r:Fr} {cs ds:List Value} {x y:RecT} (hx:RecRp.rel r cs x) (hy:RecRp.rel r ds y) :
  Con prog 85 #[.agg cs.toArray,.agg ds.toArray] r [] (Ret fun v η=>v=.bool (decide (x=y))∧η=[]):=by
 obtain ⟨xa3,xa5,xa6,xc3,xc5,xc6,rfl,xk0,xk1,xk2,xk3,xk5,xk6⟩:=RecRp.sh hx;obtain ⟨ya3,ya5,ya6,yc3,yc5,yc6,rfl,yk0,yk1,yk2,yk3,yk5,yk6⟩:=RecRp.sh hy;refine Con.of (n:=52) _ rfl func85 rfl rfl rfl fun g hg R hR=>?_;have xk3:=xk3.mono hg;have xk5:=xk5.mono hg;have xk6:=xk6.mono hg;have yk3:=yk3.mono hg;have yk5:=yk5.mono hg;have yk6:=yk6.mono hg;refine S.seq<|S.region rfl<|O.opE (.p rfl) (.box (cs:=[_,_,_,_,_,_,_]) rfl rfl) ?_;rintro _ _ ⟨b2,rfl,rfl⟩;refine O.opE (.p rfl) (.box (cs:=[_,_,_,_,_,_,_]) rfl rfl) ?_;rintro _ _ ⟨b3,rfl,rfl⟩;refine O.q 1 rfl<|O.nil<|S.seq<|S.region rfl<|O.op (.p rfl) (.fieldObj fld102x0 rfl)<|O.op (.p rfl) (.lo flat9) ?_;refine O.op (.p rfl) (.fieldObj fld102x0 rfl)<|O.op (.p rfl) (.lo flat9) ?_;refine O.op (.p rfl) (.eqlS rfl rfl)<|O.q 1 rfl ?_
 first|refine O.caseD 10 rfl (fun h10=>?_) (fun h10=>?_)|refine O.caseB 10 rfl (fun h10=>?_) (fun h10=>?_)
 ·refine O.op (.g rfl rfl) (.fieldObj fld102x1 rfl)<|O.op (.g rfl rfl) (.lo flat3) ?_
  refine O.op (.g rfl rfl) (.fieldObj fld102x1 rfl)<|O.op (.g rfl rfl) (.lo flat3) ?_;refine O.op (.g rfl rfl) (.eql rfl rfl)<|O.q 2 rfl ?_
  first|refine O.caseD 17 rfl (fun h17=>?_) (fun h17=>?_)|refine O.caseB 17 rfl (fun h17=>?_) (fun h17=>?_)
  ·refine O.op (.g rfl rfl) (.fieldObj fld102x2 rfl)<|O.op (.g rfl rfl) (.lo flat3) ?_
   refine O.op (.g rfl rfl) (.fieldObj fld102x2 rfl)<|O.op (.g rfl rfl) (.lo flat3) ?_;refine O.op (.g rfl rfl) (.eql rfl rfl)<|O.q 2 rfl ?_
   first|refine O.caseD 24 rfl (fun h24=>?_) (fun h24=>?_)|refine O.caseB 24 rfl (fun h24=>?_) (fun h24=>?_)
   ·refine O.op (.g rfl rfl) (.fieldObj fld102x3 rfl)<|O.op (.g rfl rfl) (.lo flat100) ?_
    refine O.op (.g rfl rfl) (.fieldObj fld102x3 rfl)<|O.op (.g rfl rfl) (.lo flat100) ?_;refine O.call0 (.g rfl rfl) rfl zC rfl rfl (sameDots_c (by first|assumption|exact Arr.mono hg zE|exact Arr.left zE|exact Arr.left (Arr.mono hg zE)) (by first|assumption|exact Arr.mono hg zE|exact Arr.left zE|exact Arr.left (Arr.mono hg zE))) ?_;rintro _ _ ⟨rfl,rfl⟩
    try simp only [zx1,zx2,zx3]
    refine O.q 2 rfl ?_
    first|refine O.caseD 31 rfl (fun h31=>?_) (fun h31=>?_)|refine O.caseB 31 rfl (fun h31=>?_) (fun h31=>?_)
    ·refine O.op (.g rfl rfl) (.fieldObj fld102x4 rfl)<|O.op (.g rfl rfl) (.lo flat4) ?_
     refine O.op (.g rfl rfl) (.fieldObj fld102x4 rfl)<|O.op (.g rfl rfl) (.lo flat4) ?_;refine O.op (.g rfl rfl) (.eqlB underlying4 rfl rfl)<|O.q 2 rfl ?_
     first|refine O.caseD 38 rfl (fun h38=>?_) (fun h38=>?_)|refine O.caseB 38 rfl (fun h38=>?_) (fun h38=>?_)
     ·refine O.op (.g rfl rfl) (.fieldObj fld102x5 rfl)<|O.op (.g rfl rfl) (.lo flat24) ?_
      refine O.op (.g rfl rfl) (.fieldObj fld102x5 rfl)<|O.op (.g rfl rfl) (.lo flat24) ?_;refine O.call0 (.g rfl rfl) rfl zC rfl rfl (SameBytes_c (by first|assumption|exact Arr.mono hg zE|exact Arr.left zE|exact Arr.left (Arr.mono hg zE)) (by first|assumption|exact Arr.mono hg zE|exact Arr.left zE|exact Arr.left (Arr.mono hg zE))) ?_;rintro _ _ ⟨rfl,rfl⟩
      try simp only [zx1,zx2,zx3]
      refine O.q 2 rfl ?_
      first|refine O.caseD 45 rfl (fun h45=>?_) (fun h45=>?_)|refine O.caseB 45 rfl (fun h45=>?_) (fun h45=>?_)
      ·refine O.op (.g rfl rfl) (.fieldObj fld102x6 rfl)<|O.op (.g rfl rfl) (.lo flat24) ?_
       refine O.op (.g rfl rfl) (.fieldObj fld102x6 rfl)<|O.op (.g rfl rfl) (.lo flat24) ?_;refine O.call0 (.g rfl rfl) rfl zC rfl rfl (SameBytes_c (by first|assumption|exact Arr.mono hg zE|exact Arr.left zE|exact Arr.left (Arr.mono hg zE)) (by first|assumption|exact Arr.mono hg zE|exact Arr.left zE|exact Arr.left (Arr.mono hg zE))) ?_;rintro _ _ ⟨rfl,rfl⟩
       try simp only [zx1,zx2,zx3]
       refine O.q 2 rfl<|O.nil<|S.ret results85 rfl fun w hw=>Holds.end_ hR hw ?_
       first|exact ⟨_,⟨congrArg _ (decide_eq_false (fun e=>by subst e;exact absurd rfl zE)).symm,rfl⟩,by repeat (first|exact zpa|exact zpn|(apply zpc;focus (repeat (first|exact zh|apply zt)))|apply zps)⟩|exact ⟨_,⟨congrArg _ (decide_eq_decide.2 ⟨fun e=>sameRecord_eq (str_eqL zE) zE zE zE zE zE e,fun e=>by rw [e]⟩),rfl⟩,by repeat (first|exact zpa|exact zpn|(apply zpc;focus (repeat (first|exact zh|apply zt)))|apply zps)⟩
      ·refine O.q 7 rfl<|O.nil<|S.ret results85 rfl fun w hw=>Holds.end_ hR hw ?_
       first|exact ⟨_,⟨congrArg _ (decide_eq_false (fun e=>by subst e;exact absurd rfl zE)).symm,rfl⟩,by repeat (first|exact zpa|exact zpn|(apply zpc;focus (repeat (first|exact zh|apply zt)))|apply zps)⟩|exact ⟨_,⟨congrArg _ (decide_eq_decide.2 ⟨fun e=>sameRecord_eq (str_eqL zE) zE zE zE zE zE e,fun e=>by rw [e]⟩),rfl⟩,by repeat (first|exact zpa|exact zpn|(apply zpc;focus (repeat (first|exact zh|apply zt)))|apply zps)⟩
     ·refine O.q 14 rfl<|O.nil<|S.ret results85 rfl fun w hw=>Holds.end_ hR hw ?_
      first|exact ⟨_,⟨congrArg _ (decide_eq_false (fun e=>by subst e;exact absurd rfl zE)).symm,rfl⟩,by repeat (first|exact zpa|exact zpn|(apply zpc;focus (repeat (first|exact zh|apply zt)))|apply zps)⟩|exact ⟨_,⟨congrArg _ (decide_eq_decide.2 ⟨fun e=>sameRecord_eq (str_eqL zE) zE zE zE zE zE e,fun e=>by rw [e]⟩),rfl⟩,by repeat (first|exact zpa|exact zpn|(apply zpc;focus (repeat (first|exact zh|apply zt)))|apply zps)⟩
    ·refine O.q 21 rfl<|O.nil<|S.ret results85 rfl fun w hw=>Holds.end_ hR hw ?_
     first|exact ⟨_,⟨congrArg _ (decide_eq_false (fun e=>by subst e;exact absurd rfl zE)).symm,rfl⟩,by repeat (first|exact zpa|exact zpn|(apply zpc;focus (repeat (first|exact zh|apply zt)))|apply zps)⟩|exact ⟨_,⟨congrArg _ (decide_eq_decide.2 ⟨fun e=>sameRecord_eq (str_eqL zE) zE zE zE zE zE e,fun e=>by rw [e]⟩),rfl⟩,by repeat (first|exact zpa|exact zpn|(apply zpc;focus (repeat (first|exact zh|apply zt)))|apply zps)⟩
   ·refine O.q 28 rfl<|O.nil<|S.ret results85 rfl fun w hw=>Holds.end_ hR hw ?_
    first|exact ⟨_,⟨congrArg _ (decide_eq_false (fun e=>by subst e;exact absurd rfl zE)).symm,rfl⟩,by repeat (first|exact zpa|exact zpn|(apply zpc;focus (repeat (first|exact zh|apply zt)))|apply zps)⟩|exact ⟨_,⟨congrArg _ (decide_eq_decide.2 ⟨fun e=>sameRecord_eq (str_eqL zE) zE zE zE zE zE e,fun e=>by rw [e]⟩),rfl⟩,by repeat (first|exact zpa|exact zpn|(apply zpc;focus (repeat (first|exact zh|apply zt)))|apply zps)⟩
  ·refine O.q 35 rfl<|O.nil<|S.ret results85 rfl fun w hw=>Holds.end_ hR hw ?_
   first|exact ⟨_,⟨congrArg _ (decide_eq_false (fun e=>by subst e;exact absurd rfl zE)).symm,rfl⟩,by repeat (first|exact zpa|exact zpn|(apply zpc;focus (repeat (first|exact zh|apply zt)))|apply zps)⟩|exact ⟨_,⟨congrArg _ (decide_eq_decide.2 ⟨fun e=>sameRecord_eq (str_eqL zE) zE zE zE zE zE e,fun e=>by rw [e]⟩),rfl⟩,by repeat (first|exact zpa|exact zpn|(apply zpc;focus (repeat (first|exact zh|apply zt)))|apply zps)⟩
 ·refine O.q 42 rfl<|O.nil<|S.ret results85 rfl fun w hw=>Holds.end_ hR hw ?_
  first|exact ⟨_,⟨congrArg _ (decide_eq_false (fun e=>by subst e;exact absurd rfl zE)).symm,rfl⟩,by repeat (first|exact zpa|exact zpn|(apply zpc;focus (repeat (first|exact zh|apply zt)))|apply zps)⟩|exact ⟨_,⟨congrArg _ (decide_eq_decide.2 ⟨fun e=>sameRecord_eq (str_eqL zE) zE zE zE zE zE e,fun e=>by rw [e]⟩),rfl⟩,by repeat (first|exact zpa|exact zpn|(apply zpc;focus (repeat (first|exact zh|apply zt)))|apply zps)⟩
theorem sameRecords_c {r:Fr} {va vb:Value} {xs ys:List RecT} (ha:Arr RecRp r va xs) (hb:Arr RecRp r vb ys) :
  Con prog 38 #[va,vb] r [] (Ret fun v η=>v=.bool (decide (xs=ys))∧η=[]):=by
 have har:=ha;have hbr:=hb;refine Con.of (n:=27) _ rfl func38 rfl rfl rfl fun g hg R hR=>?_;have ha:=ha.mono hg;have hb:=hb.mono hg;have hbd:=ha.bound;obtain ⟨a1,c1,rfl⟩:=ha.shape;obtain ⟨a2,c2,rfl⟩:=hb.shape
 by_cases e0:xs.length=ys.length
 ·
  refine S.seq<|S.region rfl<|O.q 1 rfl<|O.nil<|S.seq<|S.seq<|S.region rfl<|O.q 1 rfl<|O.op (.p rfl) (.len rfl underlying22 rfl)<|O.q 1 rfl<|O.op (.p rfl) (.len rfl underlying22 rfl)<|O.op (.p rfl) (.neq rfl rfl)<|O.sF 10 rfl (by exact decide_eq_false zB) ?_;refine O.nil<|S.condF rfl<|S.skip<|S.seq<|S.seq<|S.region rfl<|O.q 1 rfl<|O.nil<|S.block<|S.loopK (ι:=Nat) (fun i=>i≤xs.length∧xs.take i=ys.take i) (fun i=>[(5,.int .i64 (i:Int))]) [(0,_),(1,_)] (fun i=>[]) (fun i=>xs.length - i) (0) zI (.cons rfl (.nil)) (.cons rfl (.cons rfl (.nil))) rfl fun i hx ih=>?_;have hm1:=meltRefl (g:=g);obtain ⟨hx1,hx2⟩:=hx;refine S.seq<|S.seq<|S.region rfl<|O.q 2 rfl<|O.op (.p rfl) (.len rfl underlying22 rfl)<|O.op (.p rfl) (.lss rfl rfl)<|O.nil ?_
  first|refine S.condD rfl (fun h14=>?_) (fun h14=>?_)|refine S.condB rfl (fun h14=>?_) (fun h14=>?_)
  ·have hi:i<xs.length:=by omega
   have hi2:i<ys.length:=by omega
   by_cases e:xs[i]=ys[i]
   ·
    refine S.skip<|S.seq<|S.block<|S.seq<|S.regionD (L:=[0,1,2,3,4,5,6,7,8,9]) F.mixed zC<|OD.q 2 rfl<|OD.ib (.p rfl) underlying22 size102 rfl rfl rfl har hg (h:=fun p19 cs19 hp19 hrr19=>?_);have hr19:=Rp.rel.mono hrr19 hg;obtain ⟨ra3_19,ra5_19,ra6_19,rc3_19,rc5_19,rc6_19,rfl,ho0_19,ho1_19,ho2_19,ha3_19,ha5_19,ha6_19⟩:=RecRp.sh hr19;refine .quiet (.p rfl) rfl (fun _=>.loadAgg isAgg102 zC rfl hp19) ?_;refine OD.q 2 rfl<|OD.ib (.p rfl) underlying22 size102 rfl rfl rfl hbr hg (h:=fun p23 cs23 hp23 hrr23=>?_);have hr23:=Rp.rel.mono hrr23 hg;obtain ⟨ra3_23,ra5_23,ra6_23,rc3_23,rc5_23,rc6_23,rfl,ho0_23,ho1_23,ho2_23,ha3_23,ha5_23,ha6_23⟩:=RecRp.sh hr23;refine .quiet (.p rfl) rfl (fun _=>.loadAgg isAgg102 zC rfl hp23) ?_;refine OD.call0 (.p rfl) zC rfl zC rfl rfl ((sameRecord_c hr19 hr23)) ?_;rintro _ _ ⟨rfl,rfl⟩
    try simp only [zx1,zx2,zx3]
    refine OD.sT 25 rfl (by exact decide_eq_true e) ?_;refine .quiet (.p rfl) rfl (fun _=>.not rfl)<|ODx.nil<|S.condF rfl<|S.skip<|S.inBlock<|S.region rfl<|O.q 1 rfl<|O.op (.p rfl) (.add rfl rfl (IntWalk.i64_in _ zB))<|O.q 1 rfl<|O.nil ?_;exact S.wk (ih (i+1) (by exact ⟨by omega,take_same hi hi2 hx2 e⟩) zB)
   ·
    refine S.skip<|S.seq<|S.block<|S.seq<|S.regionD (L:=[0,1,2,3,4,5,6,7,8,9]) F.mixed zC<|OD.q 2 rfl<|OD.ib (.p rfl) underlying22 size102 rfl rfl rfl har hg (h:=fun p19 cs19 hp19 hrr19=>?_);have hr19:=Rp.rel.mono hrr19 hg;obtain ⟨ra3_19,ra5_19,ra6_19,rc3_19,rc5_19,rc6_19,rfl,ho0_19,ho1_19,ho2_19,ha3_19,ha5_19,ha6_19⟩:=RecRp.sh hr19;refine .quiet (.p rfl) rfl (fun _=>.loadAgg isAgg102 zC rfl hp19) ?_;refine OD.q 2 rfl<|OD.ib (.p rfl) underlying22 size102 rfl rfl rfl hbr hg (h:=fun p23 cs23 hp23 hrr23=>?_);have hr23:=Rp.rel.mono hrr23 hg;obtain ⟨ra3_23,ra5_23,ra6_23,rc3_23,rc5_23,rc6_23,rfl,ho0_23,ho1_23,ho2_23,ha3_23,ha5_23,ha6_23⟩:=RecRp.sh hr23;refine .quiet (.p rfl) rfl (fun _=>.loadAgg isAgg102 zC rfl hp23) ?_;refine OD.call0 (.p rfl) zC rfl zC rfl rfl ((sameRecord_c hr19 hr23)) ?_;rintro _ _ ⟨rfl,rfl⟩
    try simp only [zx1,zx2,zx3]
    refine OD.sF 25 rfl (by exact decide_eq_false e) ?_;refine .quiet (.p rfl) rfl (fun _=>.not rfl)<|ODx.nil<|S.condT rfl<|S.seq<|S.region rfl<|O.q 1 rfl<|O.nil ?_;exact S.rt results38 rfl hR ⟨congrArg _ (decide_eq_false (not_same hi hi2 e)).symm,rfl⟩
  ·have hi:i=xs.length:=by omega
   clear ih;subst hi;rw [List.take_length,e0,List.take_length] at hx2;refine S.exit rfl<|S.seq<|S.region rfl<|O.q 1 rfl<|O.nil ?_;exact S.rt results38 rfl hR ⟨by simp [hx2],rfl⟩
 ·
  refine S.seq<|S.region rfl<|O.q 1 rfl<|O.nil<|S.seq<|S.seq<|S.region rfl<|O.q 1 rfl<|O.op (.p rfl) (.len rfl underlying22 rfl)<|O.q 1 rfl<|O.op (.p rfl) (.len rfl underlying22 rfl)<|O.op (.p rfl) (.neq rfl rfl)<|O.sT 10 rfl (by exact decide_eq_true zB) ?_;refine O.nil<|S.condT rfl<|S.seq<|S.region rfl<|O.q 1 rfl<|O.nil ?_;exact S.rt results38 rfl hR ⟨congrArg _ (decide_eq_false (fun h=>e0 (by rw [h]))).symm,rfl⟩
theorem sameLeaf_eq {x y:LeafT} (h0:x.1=y.1) (h1:x.2.1=y.2.1):x=y:=by
 obtain ⟨a0,a1,⟨⟩⟩:=x;obtain ⟨b0,b1,⟨⟩⟩:=y
 simp_all
theorem sameLeaf_c {r:Fr} {cs ds:List Value} {x y:LeafT} (hx:LeafRp.rel r cs x) (hy:LeafRp.rel r ds y) :
  Con prog 100 #[.agg cs.toArray,.agg ds.toArray] r [] (Ret fun v η=>v=.bool (decide (x=y))∧η=[]):=by
 obtain ⟨xa1,xc1,rfl,xk0,xk1⟩:=LeafRp.sh hx;obtain ⟨ya1,yc1,rfl,yk0,yk1⟩:=LeafRp.sh hy;refine Con.of (n:=17) _ rfl func100 rfl rfl rfl fun g hg R hR=>?_;have xk1:=xk1.mono hg;have yk1:=yk1.mono hg;refine S.seq<|S.region rfl<|O.opE (.p rfl) (.box (cs:=[_,_]) rfl rfl) ?_;rintro _ _ ⟨b2,rfl,rfl⟩;refine O.opE (.p rfl) (.box (cs:=[_,_]) rfl rfl) ?_;rintro _ _ ⟨b3,rfl,rfl⟩;refine O.q 1 rfl<|O.nil<|S.seq<|S.region rfl<|O.op (.p rfl) (.fieldObj fld31x0 rfl)<|O.op (.p rfl) (.lo flat9) ?_;refine O.op (.p rfl) (.fieldObj fld31x0 rfl)<|O.op (.p rfl) (.lo flat9) ?_;refine O.op (.p rfl) (.eqlS rfl rfl)<|O.q 1 rfl ?_
 first|refine O.caseD 10 rfl (fun h10=>?_) (fun h10=>?_)|refine O.caseB 10 rfl (fun h10=>?_) (fun h10=>?_)
 ·refine O.op (.g rfl rfl) (.fieldObj fld31x1 rfl)<|O.op (.g rfl rfl) (.lo flat22) ?_
  refine O.op (.g rfl rfl) (.fieldObj fld31x1 rfl)<|O.op (.g rfl rfl) (.lo flat22) ?_;refine O.call0 (.g rfl rfl) rfl zC rfl rfl (sameRecords_c (by first|assumption|exact Arr.mono hg zE|exact Arr.left zE|exact Arr.left (Arr.mono hg zE)) (by first|assumption|exact Arr.mono hg zE|exact Arr.left zE|exact Arr.left (Arr.mono hg zE))) ?_;rintro _ _ ⟨rfl,rfl⟩
  try simp only [zx1,zx2,zx3]
  refine O.q 2 rfl<|O.nil<|S.ret results100 rfl fun w hw=>Holds.end_ hR hw ?_
  first|exact ⟨_,⟨congrArg _ (decide_eq_false (fun e=>by subst e;exact absurd rfl zE)).symm,rfl⟩,by repeat (first|exact zpa|exact zpn|(apply zpc;focus (repeat (first|exact zh|apply zt)))|apply zps)⟩|exact ⟨_,⟨congrArg _ (decide_eq_decide.2 ⟨fun e=>sameLeaf_eq (str_eqL zE) e,fun e=>by rw [e]⟩),rfl⟩,by repeat (first|exact zpa|exact zpn|(apply zpc;focus (repeat (first|exact zh|apply zt)))|apply zps)⟩
 ·refine O.q 7 rfl<|O.nil<|S.ret results100 rfl fun w hw=>Holds.end_ hR hw ?_
  first|exact ⟨_,⟨congrArg _ (decide_eq_false (fun e=>by subst e;exact absurd rfl zE)).symm,rfl⟩,by repeat (first|exact zpa|exact zpn|(apply zpc;focus (repeat (first|exact zh|apply zt)))|apply zps)⟩|exact ⟨_,⟨congrArg _ (decide_eq_decide.2 ⟨fun e=>sameLeaf_eq (str_eqL zE) e,fun e=>by rw [e]⟩),rfl⟩,by repeat (first|exact zpa|exact zpn|(apply zpc;focus (repeat (first|exact zh|apply zt)))|apply zps)⟩
theorem sameLeaves_c {r:Fr} {va vb:Value} {xs ys:List LeafT} (ha:Arr LeafRp r va xs) (hb:Arr LeafRp r vb ys) :
  Con prog 36 #[va,vb] r [] (Ret fun v η=>v=.bool (decide (xs=ys))∧η=[]):=by
 have har:=ha;have hbr:=hb;refine Con.of (n:=27) _ rfl func36 rfl rfl rfl fun g hg R hR=>?_;have ha:=ha.mono hg;have hb:=hb.mono hg;have hbd:=ha.bound;obtain ⟨a1,c1,rfl⟩:=ha.shape;obtain ⟨a2,c2,rfl⟩:=hb.shape
 by_cases e0:xs.length=ys.length
 ·
  refine S.seq<|S.region rfl<|O.q 1 rfl<|O.nil<|S.seq<|S.seq<|S.region rfl<|O.q 1 rfl<|O.op (.p rfl) (.len rfl underlying25 rfl)<|O.q 1 rfl<|O.op (.p rfl) (.len rfl underlying25 rfl)<|O.op (.p rfl) (.neq rfl rfl)<|O.sF 10 rfl (by exact decide_eq_false zB) ?_;refine O.nil<|S.condF rfl<|S.skip<|S.seq<|S.seq<|S.region rfl<|O.q 1 rfl<|O.nil<|S.block<|S.loopK (ι:=Nat) (fun i=>i≤xs.length∧xs.take i=ys.take i) (fun i=>[(5,.int .i64 (i:Int))]) [(0,_),(1,_)] (fun i=>[]) (fun i=>xs.length - i) (0) zI (.cons rfl (.nil)) (.cons rfl (.cons rfl (.nil))) rfl fun i hx ih=>?_;have hm1:=meltRefl (g:=g);obtain ⟨hx1,hx2⟩:=hx;refine S.seq<|S.seq<|S.region rfl<|O.q 2 rfl<|O.op (.p rfl) (.len rfl underlying25 rfl)<|O.op (.p rfl) (.lss rfl rfl)<|O.nil ?_
  first|refine S.condD rfl (fun h14=>?_) (fun h14=>?_)|refine S.condB rfl (fun h14=>?_) (fun h14=>?_)
  ·have hi:i<xs.length:=by omega
   have hi2:i<ys.length:=by omega
   by_cases e:xs[i]=ys[i]
   ·
    refine S.skip<|S.seq<|S.block<|S.seq<|S.regionD (L:=[0,1,2,3,4,5,6,7,8,9]) F.mixed zC<|OD.q 2 rfl<|OD.ib (.p rfl) underlying25 size31 rfl rfl rfl har hg (h:=fun p19 cs19 hp19 hrr19=>?_);have hr19:=Rp.rel.mono hrr19 hg;obtain ⟨la1_19,lc1_19,rfl,ho0_19,ha1_19⟩:=LeafRp.sh hr19;refine .quiet (.p rfl) rfl (fun _=>.loadAgg isAgg31 zC rfl hp19) ?_;refine OD.q 2 rfl<|OD.ib (.p rfl) underlying25 size31 rfl rfl rfl hbr hg (h:=fun p23 cs23 hp23 hrr23=>?_);have hr23:=Rp.rel.mono hrr23 hg;obtain ⟨la1_23,lc1_23,rfl,ho0_23,ha1_23⟩:=LeafRp.sh hr23;refine .quiet (.p rfl) rfl (fun _=>.loadAgg isAgg31 zC rfl hp23) ?_;refine OD.call0 (.p rfl) zC rfl zC rfl rfl ((sameLeaf_c hr19 hr23)) ?_;rintro _ _ ⟨rfl,rfl⟩
    try simp only [zx1,zx2,zx3]
    refine OD.sT 25 rfl (by exact decide_eq_true e) ?_;refine .quiet (.p rfl) rfl (fun _=>.not rfl)<|ODx.nil<|S.condF rfl<|S.skip<|S.inBlock<|S.region rfl<|O.q 1 rfl<|O.op (.p rfl) (.add rfl rfl (IntWalk.i64_in _ zB))<|O.q 1 rfl<|O.nil ?_;exact S.wk (ih (i+1) (by exact ⟨by omega,take_same hi hi2 hx2 e⟩) zB)
   ·
    refine S.skip<|S.seq<|S.block<|S.seq<|S.regionD (L:=[0,1,2,3,4,5,6,7,8,9]) F.mixed zC<|OD.q 2 rfl<|OD.ib (.p rfl) underlying25 size31 rfl rfl rfl har hg (h:=fun p19 cs19 hp19 hrr19=>?_);have hr19:=Rp.rel.mono hrr19 hg;obtain ⟨la1_19,lc1_19,rfl,ho0_19,ha1_19⟩:=LeafRp.sh hr19;refine .quiet (.p rfl) rfl (fun _=>.loadAgg isAgg31 zC rfl hp19) ?_;refine OD.q 2 rfl<|OD.ib (.p rfl) underlying25 size31 rfl rfl rfl hbr hg (h:=fun p23 cs23 hp23 hrr23=>?_);have hr23:=Rp.rel.mono hrr23 hg;obtain ⟨la1_23,lc1_23,rfl,ho0_23,ha1_23⟩:=LeafRp.sh hr23;refine .quiet (.p rfl) rfl (fun _=>.loadAgg isAgg31 zC rfl hp23) ?_;refine OD.call0 (.p rfl) zC rfl zC rfl rfl ((sameLeaf_c hr19 hr23)) ?_;rintro _ _ ⟨rfl,rfl⟩
    try simp only [zx1,zx2,zx3]
    refine OD.sF 25 rfl (by exact decide_eq_false e) ?_;refine .quiet (.p rfl) rfl (fun _=>.not rfl)<|ODx.nil<|S.condT rfl<|S.seq<|S.region rfl<|O.q 1 rfl<|O.nil ?_;exact S.rt results36 rfl hR ⟨congrArg _ (decide_eq_false (not_same hi hi2 e)).symm,rfl⟩
  ·have hi:i=xs.length:=by omega
   clear ih;subst hi;rw [List.take_length,e0,List.take_length] at hx2;refine S.exit rfl<|S.seq<|S.region rfl<|O.q 1 rfl<|O.nil ?_;exact S.rt results36 rfl hR ⟨by simp [hx2],rfl⟩
 ·
  refine S.seq<|S.region rfl<|O.q 1 rfl<|O.nil<|S.seq<|S.seq<|S.region rfl<|O.q 1 rfl<|O.op (.p rfl) (.len rfl underlying25 rfl)<|O.q 1 rfl<|O.op (.p rfl) (.len rfl underlying25 rfl)<|O.op (.p rfl) (.neq rfl rfl)<|O.sT 10 rfl (by exact decide_eq_true zB) ?_;refine O.nil<|S.condT rfl<|S.seq<|S.region rfl<|O.q 1 rfl<|O.nil ?_;exact S.rt results36 rfl hR ⟨congrArg _ (decide_eq_false (fun h=>e0 (by rw [h]))).symm,rfl⟩
end Go.Proofs.YtojafegjlahajaaGreatDoor
