/- Texts of this proof. -/
import Derived.Test.YtojafegjlahajaaGreatDoorQMerk2
open Go Go.Sp Go.Proofs.Tryz
set_option maxRecDepth 100000
set_option maxHeartbeats 1000000
attribute [local irreducible] obj Own OwnP
namespace Go.Proofs.YtojafegjlahajaaGreatDoor
theorem owned_one {α:Type} {T:Rp α} {e:TypeId} {v:Value} {xs:List α} {m:Fr} (h:Sat [OwnP T e v xs] m):Arr T m v xs:=by
 obtain ⟨m1,_,_,s1,_,o,_⟩:=h;exact (OwnP.arr o).mono s1
theorem each_arr {α:Type} {T:Rp α} {e:TypeId} {vs:List Value} {xs:List (List α)} {m k:Fr} (s:m.sub k) (x:EachP (OwnP T e) vs xs m):All2 (Arr T k) vs xs:=EachP.all2 (R:=fun v a=>Arr T k v a) (fun _ _ _ z w=>Arr.mono w (OwnP.arr z)) x s
theorem each_two {β α:Type} {A:β→α→SProp} {bs:List β} {ys:List α} {b1 b2:β} {a1 a2:α} {m:Fr} (st:Sat [EachP A bs ys,A b1 a1,A b2 a2] m):EachP A (bs++[b1,b2]) (ys++[a1,a2]) m:=by
 obtain ⟨h1,h2,d,s1,s2,x,y⟩:=st;exact EachP.app ⟨h1,h2,d,s1,s2,x,h2,Fr.emp,Fr.disj_symm (Fr.emp_disj _),Fr.sub_refl _,Fr.emp_sub _,EachP.of_sat (A:=A) (bs:=[b1,b2]) rfl y,trivial⟩
theorem nodeTag_val {k:UInt8} (h:k.toNat<5):byteV ([0,0,1,2,3]:List UInt8)[k.toNat]=byteV (nodeTag k):=by
 unfold nodeTag;rw [List.getD_eq_getElem?_getD,List.getElem?_eq_getElem (show k.toNat<([0,0,1,2,3]:List UInt8).length from h)]
 rfl
theorem nodeSum_c {r:Fr} {cs:List Value} {x:NodeT} (h:NodeRp.rel r cs x) (hx0:x.2.1.length≤1000000000000∧x.2.2.1.length≤1000000000000) (hx2:x.2.2.2.1.length≤10000000∧∀ y∈x.2.2.2.1,y.2.1.length≤10000000) (hH:At r ⟨0,0,none⟩ (w64s shaH)) (hK:At r ⟨1,0,none⟩ (w64s shaK)) :
  Con prog 22 #[.agg cs.toArray] r [] (Ret fun v η=>∃ a c,v=.slice a (nodeSumP x).length c∧η=[OwnP Rp.u8 5 (.slice a (nodeSumP x).length c) (nodeSumP x)]):=by
 have h0:=h;obtain ⟨a1,a2,a3,c1,c2,c3,rfl,k1,k2,k3⟩:=NodeRp.sh h;refine Con.of (n:=40) _ rfl func22 rfl rfl rfl fun g hg R hR=>?_;have h:=h.mono hg;have h0:=h0.mono hg;have k1:=k1.mono hg;have k2:=k2.mono hg;have k3:=k3.mono hg;have hH:=hH.mono hg;have hK:=hK.mono hg;have hb:=k3.bound;refine S.seq<|S.region rfl<|O.opE (.p rfl) (.box (cs:=[_,_,_,_]) rfl rfl) ?_;rintro _ _ ⟨b1,rfl,rfl⟩;refine O.q 1 rfl<|O.nil<|S.seq<|S.seq<|S.objIs (b:=b1) (cs' :=[byteV x.1,.slice a1 x.2.1.length c1,.slice a2 x.2.2.1.length c2,.slice a3 x.2.2.2.1.length c3]) zD rfl ?_;refine S.frzO zD fun g hs hm h1=>?_;replace hg:=Fr.sub_trans hg hs;replace hR:=melted hR hm
 try replace h:=h.mono hs
 try replace h0:=h0.mono hs
 try replace k1:=k1.mono hs
 try replace k2:=k2.mono hs
 try replace k3:=k3.mono hs
 try replace hH:=hH.mono hs
 try replace hK:=hK.mono hs
 clear hs hm
 by_cases e:nodeOk x
 ·have hkd:=node_kind e
  have hkeys:∀ y∈x.2.2.2.1,y.1.length≤64:=fun y hy=>(e.1.1 y hy).1.2;have h64:x.2.1.length≤64∧x.2.2.1.length≤64:=by rcases e.2 with q|q|q|q;rw [q.2.1,q.2.2.1];decide;rw [q.2.1,q.2.2.1];decide;omega;rw [q.2.1,q.2.2.1];decide
  refine S.region rfl<|O.op (.p rfl) (.loadAgg isAgg27 zC rfl h1) ?_;refine O.call0 (.p rfl) rfl zC rfl rfl ((mright_c h0 hx0 (fun y hy=>by have:=hx2.2 y hy;omega))) ?_;rintro _ _ ⟨rfl,rfl⟩
  try simp only [zx1,zx2,zx3]
  refine O.sT 7 rfl (by exact decide_eq_true e) ?_;refine O.op (.p rfl) (.not rfl)<|O.nil<|S.condF rfl<|S.skip<|S.seq<|S.regionD (L:=[1,2,6,7,8,9,0,3,4,5,10,11]) F.mixed zC ?_;refine .quiet (.p rfl) rfl (fun _=>.fieldAddr fld27x0 rfl)<|.quiet (.p rfl) rfl (fun _=>.loadAt flat23 rfl h1 rfl) ?_;refine .quiet (.p rfl) rfl (fun _=>.fieldAddr fld27x1 rfl)<|.quiet (.p rfl) rfl (fun _=>.loadAt flat24 rfl (h1.drop 1) rfl) ?_;refine .quiet (.p rfl) rfl (fun _=>.fieldAddr fld27x2 rfl)<|.quiet (.p rfl) rfl (fun _=>.loadAt flat24 rfl (h1.drop 2) rfl) ?_;refine OD.litP (T:=Rp.u8) (ys:=[0,0,1,2,3]) (.p rfl) zC underlying24 elem5 zF rfl rfl ⟨rfl,rfl,rfl,rfl,rfl,trivial⟩ zF (fun a9 c9=>?_);refine OD.idxOwn (T:=Rp.u8) (e:=5) (v:=.slice a9 5 c9) (xs:=[0,0,1,2,3]) (j:=x.1.toNat) (.p rfl) zC underlying24 size5 rfl rfl rfl zD hkd (fun p12 hp12=>?_);refine OD.loadL (.p rfl) zC (fun _=>.loadOwn (T:=Rp.u8) (xs:=[0,0,1,2,3]) (j:=x.1.toNat) flat5 rfl hp12 rfl zD hkd (by rintro _ rfl;exact congrArg (fun v=>[v]) (nodeTag_val hkd))) ?_;refine OD.litP (.p rfl) zC (T:=Rp.u8) (ys:=[nodeTag x.1]) underlying24 elem5 zF rfl rfl ⟨rfl,trivial⟩ zF (fun a14 c14=>?_)
  refine OD.litP (.p rfl) zC (T:=Rp.val) (ys:=[.slice a14 1 c14,.slice a1 x.2.1.length c1,.slice a2 x.2.2.1.length c2]) underlying109 elem24 zF rfl rfl ⟨⟨rfl,rfl⟩,⟨rfl,rfl⟩,⟨rfl,rfl⟩,trivial⟩ zF (fun a19 c19=>?_);refine OD.q 1 rfl<|ODx.nil<|S.seq<|S.seq<|S.frz (A:=OwnP Rp.u8 5 (.slice a14 1 c14) [nodeTag x.1]) zD fun g hs hm ⟨_,x',s'⟩=>?_;have ht:=(fun s x=>Arr.mono s (OwnP.arr x)) s' x';clear x' s';replace hg:=Fr.sub_trans hg hs;replace hR:=melted hR hm
  try replace h:=h.mono hs
  try replace h0:=h0.mono hs
  try replace k1:=k1.mono hs
  try replace k2:=k2.mono hs
  try replace k3:=k3.mono hs
  try replace hH:=hH.mono hs
  try replace hK:=hK.mono hs
  try replace h1:=h1.mono hs
  clear hs hm;refine S.frz (A:=OwnP Rp.u8 5 (.slice a9 5 c9) [0,0,1,2,3]) zD fun g hs hm ⟨_,x',s'⟩=>?_;have h9:=(fun s x=>Arr.mono s (OwnP.arr x)) s' x';clear x' s';replace hg:=Fr.sub_trans hg hs;replace hR:=melted hR hm
  try replace h:=h.mono hs
  try replace h0:=h0.mono hs
  try replace k1:=k1.mono hs
  try replace k2:=k2.mono hs
  try replace k3:=k3.mono hs
  try replace hH:=hH.mono hs
  try replace hK:=hK.mono hs
  try replace h1:=h1.mono hs
  try replace ht:=ht.mono hs
  clear hs hm;refine S.foldS (A:=EachP (OwnP Rp.u8 5) [] (leafParts (x.2.2.2.1.take 0))) (bs:=[]) .nil (fun m _=>trivial) ?_;refine S.region rfl<|O.op (.p rfl) (.fieldAddr fld27x3 rfl)<|O.op (.p rfl) (.loadAt flat25 rfl (h1.drop 3) rfl) ?_;refine O.op (.p rfl) (.len rfl underlying25 rfl)<|O.q 1 rfl<|O.nil<|S.block<|S.loopK3 (ι:=Nat) (κ:=Option Addr × Nat) (υ:=List Value) (fun k s vs=>k≤x.2.2.2.1.length∧vs.length=2*k) (fun k s vs=>[(23,.int .i64 (k:Int)),(3,.slice s.1 (3+2*k) s.2)]) [(21,_),(22,_)] (fun k s vs=>[EachP (OwnP Rp.u8 5) vs (leafParts (x.2.2.2.1.take k)),OwnP Rp.val 24 (.slice s.1 (3+2*k) s.2) ([.slice a14 1 c14,.slice a1 x.2.1.length c1,.slice a2 x.2.2.1.length c2]++vs)]) (fun k s vs=>x.2.2.2.1.length - k) (0) ((a19,c19)) ([]) (by exact ⟨by omega,rfl⟩) (.cons rfl (.cons rfl (.nil))) (.cons rfl (.cons rfl (.nil))) rfl fun k s vs hx ih=>?_;have hm1:=meltRefl (g:=g);obtain ⟨hx1,hvl⟩:=hx;refine S.seq<|S.region rfl<|O.op (.p rfl) (.lss rfl rfl)<|O.nil (S.seq ?_)
  first|refine S.condD rfl (fun h24=>?_) (fun h24=>?_)|refine S.condB rfl (fun h24=>?_) (fun h24=>?_)
  ·have hk:k<x.2.2.2.1.length:=by omega
   have hset:=hx2.2 _ (List.getElem_mem hk);have hkey:=hkeys _ (List.getElem_mem hk);have hsn:=leafParts_snoc hk;refine S.skip<|S.seq<|S.block<|S.seq<|S.region rfl<|O.ia (.p rfl) underlying25 size31 rfl rfl rfl (k3) (h:=fun p25 cs25 hp25 hr25=>?_);obtain ⟨l1,m1,rfl,l2,l3⟩:=LeafRp.sh hr25;have l3:=l3;refine O.op (.p rfl) (.loadAgg isAgg31 zC rfl hp25) ?_;refine O.opE (.p rfl) (.alloc (cs:=[.string ⟨#[]⟩,.slice none 0 0]) zeroValue31 rfl) ?_;rintro _ _ ⟨b5,rfl,rfl⟩;refine O.opU rfl (.storeObj zC rfl rfl rfl rfl zD zJ) ?_;refine O.nil ?_;generalize x.2.2.2.1[k]=y at *;refine S.objIs (b:=b5) (cs' :=[.string (str y.1),.slice l1 y.2.1.length m1]) zD rfl ?_;refine S.frzO zD fun g hs hm h5=>?_;replace hg:=Fr.sub_trans hg hs;replace hR:=melted hR hm
   try replace h:=h.mono hs
   try replace h0:=h0.mono hs
   try replace k1:=k1.mono hs
   try replace k2:=k2.mono hs
   try replace k3:=k3.mono hs
   try replace hH:=hH.mono hs
   try replace hK:=hK.mono hs
   try replace h1:=h1.mono hs
   try replace ht:=ht.mono hs
   try replace h9:=h9.mono hs
   try replace hp25:=hp25.mono hs
   try replace l3:=l3.mono hs
   replace hm1:=meltTrans hm1 hm;clear hs hm;refine S.regionD (L:=[0,1,2,5,6,3,4,7,8,9,10]) F.mixed zC ?_;refine OD.q 1 rfl<|.quiet (.p rfl) rfl (fun _=>.fieldAddr fld31x0 rfl)<|.quiet (.p rfl) rfl (fun _=>.loadAt flat9 rfl h5 rfl) ?_;refine .quiet (.p rfl) rfl (fun _=>.fieldAddr fld31x1 rfl)<|.quiet (.p rfl) rfl (fun _=>.loadAt flat22 rfl (h5.drop 1) rfl) ?_;refine OD.strBytesO (.p rfl) zC underlying9 underlying24 underlying5 rfl zW (fun a30 c30=>?_);refine OD.callB (.p rfl) zC rfl zC rfl rfl (bs:=[OwnP Rp.u8 5 (.slice a30 y.1.length c30) y.1]) zL (fun m hm hd=>wBytes_c ((owned_one hm).right hd) zB) ?_;rintro _ _ ⟨a31,c31,rfl,rfl⟩
   try simp only [zx1,zx2,zx3]
   refine OD.call0 (.p rfl) zC rfl zC rfl rfl ((setSum_c l3 hH hK hset)) ?_;rintro _ _ ⟨a34,c34,rfl,rfl⟩
   try simp only [zx1,zx2,zx3]
   refine OD.litP (.p rfl) zC (T:=Rp.val) (ys:=[.slice a31 (bytesOf y.1).length c31,.slice a34 (setD y.2.1).length c34]) underlying109 elem24 zF rfl rfl ⟨⟨rfl,rfl⟩,⟨rfl,rfl⟩,trivial⟩ zF (fun a35 c35=>?_);refine OD.appendO (.p rfl) zC (T:=Rp.val) underlying109 elem24 zF rfl rfl zD zD zG zG (fun a36 c36=>?_);refine OD.q 1 rfl<|ODx.nil<|S.inBlock<|S.foldS (A:=EachP (OwnP Rp.u8 5) (vs++[.slice a31 (bytesOf y.1).length c31,.slice a34 (setD y.2.1).length c34]) (leafParts (x.2.2.2.1.take (k+1)))) (bs:=[EachP (OwnP Rp.u8 5) vs (leafParts (x.2.2.2.1.take k)),OwnP Rp.u8 5 (.slice a31 (bytesOf y.1).length c31) (bytesOf y.1),OwnP Rp.u8 5 (.slice a34 (setD y.2.1).length c34) (setD y.2.1)]) zL (fun m st=>by rw [← hsn];exact each_two st) ?_;refine S.frz (A:=OwnP Rp.u8 5 (.slice a30 y.1.length c30) y.1) zD fun g hs hm ⟨_,x',s'⟩=>?_;have hg0:=(fun s x=>Arr.mono s (OwnP.arr x)) s' x';clear x' s';replace hg:=Fr.sub_trans hg hs;replace hR:=melted hR hm
   try replace h:=h.mono hs
   try replace h0:=h0.mono hs
   try replace k1:=k1.mono hs
   try replace k2:=k2.mono hs
   try replace k3:=k3.mono hs
   try replace hH:=hH.mono hs
   try replace hK:=hK.mono hs
   try replace h1:=h1.mono hs
   try replace ht:=ht.mono hs
   try replace h9:=h9.mono hs
   try replace hp25:=hp25.mono hs
   try replace l3:=l3.mono hs
   try replace h5:=h5.mono hs
   replace hm1:=meltTrans hm1 hm;clear hs hm;refine S.ownIs (T:=Rp.val) (e:=24) (v' :=.slice a36 (3+2*(k+1)) c36) (xs' :=[.slice a14 1 c14,.slice a1 x.2.1.length c1,.slice a2 x.2.2.1.length c2]++(vs++[.slice a31 (bytesOf y.1).length c31,.slice a34 (setD y.2.1).length c34])) zD (by congr 1;simp only [List.length_cons,List.length_nil,hvl];omega) zI ?_;refine S.slot 3 (v' :=.slice a36 (3+2*(k+1)) c36) rfl (by congr 1;simp only [List.length_cons,List.length_nil,hvl];omega) ?_;refine S.region rfl<|O.op (.p rfl) (.add rfl rfl (IntWalk.i64_in _ zB))<|O.q 1 rfl<|O.nil ?_;exact S.melt hm1 (S.pw (ih (k+1) ((a36,c36)) ((vs++[.slice a31 (bytesOf y.1).length c31,.slice a34 (setD y.2.1).length c34])) (by exact ⟨by omega,by rw [List.length_append,hvl];simp only [List.length_cons,List.length_nil];omega⟩) zB))
  ·clear ih
   have hk:k=x.2.2.2.1.length:=by omega
   subst hk;rw [List.take_length];refine S.exit rfl<|S.seq<|S.frzA zD fun g hs hm hpv=>?_;replace hg:=Fr.sub_trans hg hs;replace hR:=melted hR hm
   try replace h:=h.mono hs
   try replace h0:=h0.mono hs
   try replace k1:=k1.mono hs
   try replace k2:=k2.mono hs
   try replace k3:=k3.mono hs
   try replace hH:=hH.mono hs
   try replace hK:=hK.mono hs
   try replace h1:=h1.mono hs
   try replace ht:=ht.mono hs
   try replace h9:=h9.mono hs
   replace hm1:=meltTrans hm1 hm;clear hs hm;refine S.frz (A:=EachP (OwnP Rp.u8 5) vs (leafParts x.2.2.2.1)) zD fun g hs hm ⟨_,x',s'⟩=>?_;have he:=each_arr s' x';clear x' s';replace hg:=Fr.sub_trans hg hs;replace hR:=melted hR hm
   try replace h:=h.mono hs
   try replace h0:=h0.mono hs
   try replace k1:=k1.mono hs
   try replace k2:=k2.mono hs
   try replace k3:=k3.mono hs
   try replace hH:=hH.mono hs
   try replace hK:=hK.mono hs
   try replace h1:=h1.mono hs
   try replace ht:=ht.mono hs
   try replace h9:=h9.mono hs
   try replace hpv:=hpv.mono hs
   replace hm1:=meltTrans hm1 hm;clear hs hm;have hpa:Arr (Rp.slice Rp.u8) g.h (.slice s.1 (3+2*x.2.2.2.1.length) s.2) (nodeParts x):=Arr.rows hpv ⟨ht,k1,k2,he⟩;have hsl:=leafParts_sum x.2.2.2.1 hkeys;have hfl:(nodeParts x).flatten.length≤10000000000:=by unfold nodeParts;simp only [List.flatten_append,List.flatten_cons,List.flatten_nil,List.length_append,List.length_cons,List.length_nil];omega
   refine S.region rfl<|O.q 1 rfl<|O.call0 (.p rfl) rfl zC rfl rfl ((shaSum_c hpa hH hK zB)) ?_;rintro _ _ ⟨a39,c39,rfl,rfl⟩
   try simp only [zx1,zx2,zx3]
   refine O.q 1 rfl<|O.nil ?_;have e1:=nodeSumY e;have e2:(nodeSumP x).length=64:=(nodeSum_64 x).2 e;refine S.ownIs (T:=Rp.u8) (e:=5) (v' :=.slice a39 (nodeSumP x).length c39) (xs' :=nodeSumP x) zD (by rw [e2]) e1.symm ?_;exact S.rt results22 rfl hR ⟨a39,c39,by rw [e2],rfl⟩
 ·have e1:=nodeSumN e
  refine S.region rfl<|O.op (.p rfl) (.loadAgg isAgg27 zC rfl h1) ?_;refine O.call0 (.p rfl) rfl zC rfl rfl ((mright_c h0 hx0 (fun y hy=>by have:=hx2.2 y hy;omega))) ?_;rintro _ _ ⟨rfl,rfl⟩
  try simp only [zx1,zx2,zx3]
  refine O.sF 7 rfl (by exact decide_eq_false e) ?_;refine O.op (.p rfl) (.not rfl)<|O.nil<|S.condT rfl<|S.seq<|S.region rfl<|O.q 1 rfl<|O.nil<|S.addNil (T:=Rp.u8) (e:=5) ?_;refine S.ownIs (T:=Rp.u8) (e:=5) (v' :=.slice none (nodeSumP x).length 0) (xs' :=nodeSumP x) zD (by rw [e1];rfl) e1.symm ?_;exact S.rt results22 rfl hR ⟨none,0,by rw [e1];rfl,rfl⟩
theorem be_take (n:Int) (j:Nat) (h:j<8):(be n).take j++[beAt n (7 - j)]=(be n).take (j+1):=by
 match j,h with
 |0,_|1,_|2,_|3,_|4,_|5,_|6,_|7,_=>rfl
theorem be_take_len (n:Int) (j:Nat) (h:j≤8):((be n).take j).length=j:=by rw [List.length_take,be_length];omega
theorem refNumber_c {r:Fr} (n:Int):Con prog 149 #[.int .i64 n] r [] (Ret fun v η=>∃ a c,v=.slice a 8 c∧η=[OwnP Rp.u8 5 v (be n)]):=by
 refine Con.of (n:=20) _ rfl func149 rfl rfl rfl fun g hg R hR=>?_;refine S.addNil (T:=Rp.u8) (e:=5) ?_;refine S.seq<|S.region rfl<|O.q 1 rfl<|O.nil<|S.seq<|S.region rfl<|O.q 1 rfl<|O.nil<|S.seq<|S.seq<|S.region rfl<|O.q 1 rfl<|O.nil<|S.block<|S.loopK3 (ι:=Nat) (κ:=Option Addr) (υ:=Nat) (fun j a c=>j≤8) (fun j a c=>[(4,.int .i64 ((7:Int) - (j:Int))),(3,.slice a j c)]) [(0,_)] (fun j a c=>[OwnP Rp.u8 5 (.slice a j c) ((be n).take j)]) (fun j a c=>8 - j) (0) (none) (0) zI (.cons rfl (.cons rfl (.nil))) (.cons rfl (.nil)) rfl fun j a c hx ih=>?_;have hm1:=meltRefl (g:=g);refine S.seq<|S.seq<|S.region rfl<|O.q 1 rfl<|O.op (.p rfl) (.geq rfl rfl)<|O.nil ?_
 first|refine S.condD rfl (fun h6=>?_) (fun h6=>?_)|refine S.condB rfl (fun h6=>?_) (fun h6=>?_)
 ·have hj:j<8:=by omega
  have hl:=be_take_len n j zB;have hw:IntKind.u64.wrap (8*(7 - (j:Int)))=8*(7 - (j:Int)):=by rw [wrap_u64_eq];unfold u64;omega
  refine S.skip<|S.seq<|S.block<|S.region rfl<|O.q 2 rfl<|O.op (.p rfl) (.cvt underlying3 underlying274 rfl)<|O.q 1 rfl<|O.op (.p rfl) (.mul rfl rfl (IntWalk.i64_in _ zB))<|O.op (.p rfl) (.cvt underlying3 underlying197 rfl)<|O.op (.p rfl) (.shr rfl rfl zB)<|O.op (.p rfl) (.cvt underlying274 underlying5 rfl)<|O.opE (.p rfl) (.litP (T:=Rp.u8) (ys:=[beAt n (7 - j)]) underlying24 elem5 zF rfl rfl ⟨congrArg (fun v=>[v]) (by simp only [byteV];rw [shift_byte n (7 - j) zB _ (by rw [wrap_u64_eq];unfold u64;omega)]),trivial⟩ zF) ?_;rintro _ _ ⟨a17,c17,rfl,rfl⟩;refine O.frzA zD fun g hs hm ha17=>?_;replace hg:=Fr.sub_trans hg hs;replace hR:=melted hR hm;replace hm1:=meltTrans hm1 hm;clear hs hm;refine O.opE (.p rfl) (.appendP (T:=Rp.u8) pure_u8 underlying24 elem5 zF rfl rfl zD (by first|assumption|exact Arr.mono hg zE|exact Arr.left zE|exact Arr.left (Arr.mono hg zE)) zG zG) ?_;rintro _ _ ⟨a18,c18,rfl,rfl⟩;refine O.q 1 rfl<|O.nil<|S.inBlock<|S.region rfl<|O.q 1 rfl<|O.op (.p rfl) (.sub rfl rfl (IntWalk.i64_in _ zB))<|O.q 1 rfl<|O.nil ?_;rw [be_take n j hj,hl];refine S.slot 4 (v' :=.int .i64 ((7:Int) - ((j+1:Nat):Int))) rfl (congrArg _ zB) ?_;exact S.melt hm1 (S.wk (ih (j+1) (a18) (c18) zB zB))
 ·have hj:j=8:=by omega
  subst hj;refine S.exit rfl<|S.seq<|S.region rfl<|O.q 2 rfl<|O.nil<|S.ret results149 rfl fun w hw=>hR _ _ w ?_ hw;exact ⟨a,c,rfl,rfl⟩
theorem refBytes_c {r:Fr} {va:Value} {xs:List UInt8} (ha:Arr Rp.u8 r va xs) (hl:xs.length≤100000000000000) :
  Con prog 150 #[va] r [] (Ret fun v η=>∃ a c,v=.slice a (bytesOf xs).length c∧η=[OwnP Rp.u8 5 v (bytesOf xs)]):=by
 refine Con.of (n:=8) _ rfl func150 rfl rfl rfl fun g hg R hR=>?_;have ha:=ha.mono hg;obtain ⟨a1,c1,rfl⟩:=ha.shape;refine S.seq<|S.region rfl<|O.q 1 rfl<|O.nil<|S.seq<|S.region rfl<|O.q 1 rfl<|O.op (.p rfl) (.len rfl underlying24 rfl)<|O.call0 (.p rfl) rfl zC rfl rfl (refNumber_c _) ?_;rintro _ _ ⟨a5,c5,rfl,rfl⟩
 try simp only [zx1,zx2,zx3]
 refine O.q 1 rfl<|O.opE (.p rfl) (.appendP (T:=Rp.u8) pure_u8 underlying24 elem5 zF rfl rfl zD (by first|assumption|exact Arr.mono hg zE|exact Arr.left zE|exact Arr.left (Arr.mono hg zE)) zG zG) ?_;rintro _ _ ⟨a7,c7,rfl,rfl⟩;refine O.q 1 rfl<|O.nil<|S.ret results150 rfl fun w hw=>hR _ _ w ?_ hw;exact ⟨a7,c7,by simp [bytesOf],by simp [bytesOf]⟩
theorem refJoin_c {r:Fr} {va:Value} {xss:List (List UInt8)} (ha:Arr (Rp.slice Rp.u8) r va xss) (hl:xss.flatten.length≤140737488355328) :
  Con prog 82 #[va] r [] (Ret fun v η=>∃ a c,v=.slice a xss.flatten.length c∧η=[OwnP Rp.u8 5 v xss.flatten]):=by
 refine Con.of (n:=18) _ rfl func82 rfl rfl rfl fun g hg R hR=>?_;have ha:=ha.mono hg;have hbd:=ha.bound;obtain ⟨a1,c1,rfl⟩:=ha.shape;refine S.addNil (T:=Rp.u8) (e:=5) ?_;refine S.seq<|S.region rfl<|O.q 1 rfl<|O.nil<|S.seq<|S.region rfl<|O.q 1 rfl<|O.nil<|S.seq<|S.seq<|S.region rfl<|O.q 1 rfl<|O.nil<|S.block<|S.loopK4 (ι:=Nat) (κ:=Option Addr) (υ:=Nat) (τ:=Nat) (fun i a6 m6 c6=>i≤xss.length∧m6=(xss.take i).flatten.length) (fun i a6 m6 c6=>[(4,.int .i64 (i:Int)),(3,.slice a6 m6 c6)]) [(0,_)] (fun i a6 m6 c6=>[OwnP Rp.u8 5 (.slice a6 m6 c6) (xss.take i).flatten]) (fun i a6 m6 c6=>xss.length - i) (0) (none) (0) (0) zI (.cons rfl (.cons rfl (.nil))) (.cons rfl (.nil)) rfl fun i a6 m6 c6 hx ih=>?_;have hm1:=meltRefl (g:=g);obtain ⟨hx1,hs⟩:=hx;refine S.seq<|S.seq<|S.region rfl<|O.q 2 rfl<|O.op (.p rfl) (.len rfl underlying109 rfl)<|O.op (.p rfl) (.lss rfl rfl)<|O.nil ?_
 first|refine S.condD rfl (fun h8=>?_) (fun h8=>?_)|refine S.condB rfl (fun h8=>?_) (fun h8=>?_)
 ·have hi:i<xss.length:=by omega
  have h1:=flat_len_q xss i hi;have h2:=flat_le xss (i+1);have h3:(xss.take (i+1)).flatten.length=(xss.take i).flatten.length+xss[i].length:=by rw [h1,List.length_append]
  refine S.skip<|S.seq<|S.block<|S.region rfl<|O.q 3 rfl<|O.ia (.p rfl) underlying109 size24 rfl rfl rfl (by first|assumption|exact Arr.mono hg zE|exact Arr.left zE|exact Arr.left (Arr.mono hg zE)) (h:=fun p14 cs14 hp14 hr14=>?_);obtain ⟨v14,rfl,ha14⟩:=hr14;obtain ⟨a14,c14,rfl⟩:=ha14.shape;refine O.op (.p rfl) (.loadAt flat24 rfl hp14 rfl) ?_;refine O.opE (.p rfl) (.appendP (T:=Rp.u8) pure_u8 underlying24 elem5 zF rfl rfl zD (by first|assumption|exact Arr.mono hg zE|exact Arr.left zE|exact Arr.left (Arr.mono hg zE)) zG zG) ?_;rintro _ _ ⟨a16,c16,rfl,rfl⟩;refine O.q 1 rfl<|O.nil<|S.inBlock<|S.region rfl<|O.q 1 rfl<|O.op (.p rfl) (.add rfl rfl (IntWalk.i64_in _ zB))<|O.q 1 rfl<|O.nil ?_;rw [← h1];exact S.wk (ih (i+1) (a16) ((xss.take i).flatten.length+xss[i].length) (c16) zB zB)
 ·have hi:i=xss.length:=by omega
  subst hi;rw [List.take_length] at hs;subst hs;refine S.exit rfl<|S.seq<|S.region rfl<|O.q 2 rfl<|O.nil<|S.ret results82 rfl fun w hw=>hR _ _ w ?_ hw;exact ⟨a6,c6,rfl,by rw [List.take_length]⟩
theorem r7dot_c {r:Fr} {a b:Int} (d:DotT) (h:d=(a,b,())):Con prog 335 #[.agg #[.int .i64 a,.int .i64 b]] r [] (Ret fun v η=>v=.bool (dotOk d)∧η=[]):=by
 subst h;refine Con.of (n:=21) _ rfl func335 rfl rfl rfl fun g hg R hR=>?_;refine S.seq<|S.region rfl<|O.opE (.p rfl) (.box (cs:=[_,_]) rfl rfl) ?_;rintro _ _ ⟨b1,rfl,rfl⟩;refine O.q 1 rfl<|O.nil<|S.seq<|S.region rfl<|O.op (.p rfl) (.fieldObj fld191x0 rfl)<|O.op (.p rfl) (.lo flat3) ?_;refine O.op (.p rfl) (.geq rfl rfl)<|O.q 1 rfl ?_
 first|refine O.caseD 6 rfl (fun h6=>?_) (fun h6=>?_)|refine O.caseB 6 rfl (fun h6=>?_) (fun h6=>?_)
 ·refine O.op (.g rfl rfl) (.fieldObj fld191x0 rfl)<|O.op (.g rfl rfl) (.lo flat3) ?_
  refine O.op (.g rfl rfl) (.leq rfl rfl)<|O.q 2 rfl ?_
  first|refine O.caseD 11 rfl (fun h11=>?_) (fun h11=>?_)|refine O.caseB 11 rfl (fun h11=>?_) (fun h11=>?_)
  ·refine O.op (.g rfl rfl) (.fieldObj fld191x1 rfl)<|O.op (.g rfl rfl) (.lo flat3) ?_
   refine O.op (.g rfl rfl) (.geq rfl rfl)<|O.q 2 rfl ?_
   first|refine O.caseD 16 rfl (fun h16=>?_) (fun h16=>?_)|refine O.caseB 16 rfl (fun h16=>?_) (fun h16=>?_)
   ·refine O.op (.g rfl rfl) (.fieldObj fld191x1 rfl)<|O.op (.g rfl rfl) (.lo flat3) ?_
    refine O.op (.g rfl rfl) (.leq rfl rfl)<|O.q 2 rfl<|O.nil<|S.ret results335 rfl fun w hw=>Holds.end_ hR hw ?_
    first|exact ⟨_,⟨congrArg _ (decide_eq_false zU).symm,rfl⟩,by repeat (first|exact zpa|exact zpn|(apply zpc;focus (repeat (first|exact zh|apply zt)))|apply zps)⟩|exact ⟨_,⟨congrArg _ (decide_eq_decide.2 zU),rfl⟩,by repeat (first|exact zpa|exact zpn|(apply zpc;focus (repeat (first|exact zh|apply zt)))|apply zps)⟩
   ·refine O.q 5 rfl<|O.nil<|S.ret results335 rfl fun w hw=>Holds.end_ hR hw ?_
    first|exact ⟨_,⟨congrArg _ (decide_eq_false zU).symm,rfl⟩,by repeat (first|exact zpa|exact zpn|(apply zpc;focus (repeat (first|exact zh|apply zt)))|apply zps)⟩|exact ⟨_,⟨congrArg _ (decide_eq_decide.2 zU),rfl⟩,by repeat (first|exact zpa|exact zpn|(apply zpc;focus (repeat (first|exact zh|apply zt)))|apply zps)⟩
  ·refine O.q 10 rfl<|O.nil<|S.ret results335 rfl fun w hw=>Holds.end_ hR hw ?_
   first|exact ⟨_,⟨congrArg _ (decide_eq_false zU).symm,rfl⟩,by repeat (first|exact zpa|exact zpn|(apply zpc;focus (repeat (first|exact zh|apply zt)))|apply zps)⟩|exact ⟨_,⟨congrArg _ (decide_eq_decide.2 zU),rfl⟩,by repeat (first|exact zpa|exact zpn|(apply zpc;focus (repeat (first|exact zh|apply zt)))|apply zps)⟩
 ·refine O.q 15 rfl<|O.nil<|S.ret results335 rfl fun w hw=>Holds.end_ hR hw ?_
  first|exact ⟨_,⟨congrArg _ (decide_eq_false zU).symm,rfl⟩,by repeat (first|exact zpa|exact zpn|(apply zpc;focus (repeat (first|exact zh|apply zt)))|apply zps)⟩|exact ⟨_,⟨congrArg _ (decide_eq_decide.2 zU),rfl⟩,by repeat (first|exact zpa|exact zpn|(apply zpc;focus (repeat (first|exact zh|apply zt)))|apply zps)⟩
theorem r7right_c {r:Fr} {va:Value} {v:List DotT} (ha:Arr DotRp r va v):Con prog 336 #[va] r [] (Ret fun u η=>u=.bool (vecOk v)∧η=[]):=by
 refine Con.of (n:=34) _ rfl func336 rfl rfl rfl fun g hg R hR=>?_;have ha:=ha.mono hg;have hbd:=ha.bound;obtain ⟨a1,c1,rfl⟩:=ha.shape;refine S.seq<|S.region rfl<|O.q 1 rfl<|O.nil<|S.seq<|S.seq<|S.region rfl<|O.q 1 rfl<|O.nil<|S.block<|S.loopK (ι:=Nat) (fun k=>k≤v.length∧vecOk (v.take k)=true) (fun k=>[(3,.int .i64 (k:Int))]) [(0,_)] (fun k=>[]) (fun k=>v.length - k) (0) zY (.cons rfl (.nil)) (.cons rfl (.nil)) rfl fun k hx ih=>?_;have hm1:=meltRefl (g:=g);obtain ⟨hx1,hx2⟩:=hx;refine S.seq<|S.seq<|S.region rfl<|O.q 2 rfl<|O.op (.p rfl) (.len rfl underlying100 rfl)<|O.op (.p rfl) (.lss rfl rfl)<|O.nil ?_
 first|refine S.condD rfl (fun h7=>?_) (fun h7=>?_)|refine S.condB rfl (fun h7=>?_) (fun h7=>?_)
 ·have hk:k<v.length:=by omega
  have hst:=vecOk_step hk hx2
  by_cases hd:dotOk v[k]=true
  ·by_cases h0:k=0
   ·
    refine S.skip<|S.seq<|S.block<|S.seq<|S.regionD (L:=[0,1,2,3,4,5,6,7,8,9,10,11,12,13,14,15,16,17,18,19,20,21,22,23]) F.mixed zC<|OD.q 2 rfl<|OD.ia (.p rfl) underlying100 size191 rfl rfl rfl (by first|assumption|exact Arr.mono hg zE|exact Arr.left zE|exact Arr.left (Arr.mono hg zE)) (h:=fun p12 cs12 hp12 hr12=>?_);obtain ⟨rfl,hi12,hj12⟩:=DotRp.open hr12;refine .quiet (.p rfl) rfl (fun _=>.loadAgg isAgg191 zC rfl hp12) ?_;refine OD.call0 (.p rfl) zC rfl zC rfl rfl ((r7dot_c v[k] rfl)) ?_;rintro _ _ ⟨rfl,rfl⟩
    try simp only [zx1,zx2,zx3]
    refine OD.sT 14 rfl (by exact hd) ?_;refine .quiet (.p rfl) rfl (fun _=>.not rfl)<|OD.q 2 rfl<|.quiet (.g rfl rfl) rfl (fun _=>.gtr rfl rfl)<|OD.sF 18 rfl (by exact decide_eq_false zB) ?_;refine OD.q 15 rfl<|ODx.nil<|S.condF rfl<|S.skip<|S.inBlock<|S.region rfl<|O.q 1 rfl<|O.op (.p rfl) (.add rfl rfl (IntWalk.i64_in _ zB))<|O.q 1 rfl<|O.nil ?_;exact S.wk (ih (k+1) (by exact ⟨by omega,hst.2 ⟨hd,fun h=>absurd h zB⟩⟩) zB)
   ·have hk1:k - 1<v.length:=by omega
    by_cases hlt:v[k - 1].1<v[k].1
    ·
     refine S.skip<|S.seq<|S.block<|S.seq<|S.regionD (L:=[0,1,2,3,4,5,6,7,8,9,10,11,12,13,14,15,16,17,18,19,20,21,22,23]) F.mixed zC<|OD.q 2 rfl<|OD.ia (.p rfl) underlying100 size191 rfl rfl rfl (by first|assumption|exact Arr.mono hg zE|exact Arr.left zE|exact Arr.left (Arr.mono hg zE)) (h:=fun p12 cs12 hp12 hr12=>?_);obtain ⟨rfl,hi12,hj12⟩:=DotRp.open hr12;refine .quiet (.p rfl) rfl (fun _=>.loadAgg isAgg191 zC rfl hp12) ?_;refine OD.call0 (.p rfl) zC rfl zC rfl rfl ((r7dot_c v[k] rfl)) ?_;rintro _ _ ⟨rfl,rfl⟩
     try simp only [zx1,zx2,zx3]
     refine OD.sT 14 rfl (by exact hd) ?_;refine .quiet (.p rfl) rfl (fun _=>.not rfl)<|OD.q 2 rfl<|.quiet (.g rfl rfl) rfl (fun _=>.gtr rfl rfl)<|OD.sT 18 rfl (by exact decide_eq_true zB) ?_;refine OD.q 3 rfl<|.quiet (.g rfl rfl) rfl (fun _=>.sub rfl rfl (IntWalk.i64_in _ zB))<|OD.ia (.g rfl rfl) underlying100 size191 rfl rfl (show _=(((k - 1):Nat):Int) by omega) (by first|assumption|exact Arr.mono hg zE|exact Arr.left zE|exact Arr.left (Arr.mono hg zE)) (h:=fun p23 cs23 hp23 hr23=>?_);obtain ⟨rfl,hi23,hj23⟩:=DotRp.open hr23;refine .quiet (.g rfl rfl) rfl (fun _=>.fieldAddr fld191x0 rfl)<|.quiet (.g rfl rfl) rfl (fun _=>.loadAt flat3 rfl hp23 rfl) ?_;refine OD.q 2 rfl<|OD.ia (.g rfl rfl) underlying100 size191 rfl rfl rfl (by first|assumption|exact Arr.mono hg zE|exact Arr.left zE|exact Arr.left (Arr.mono hg zE)) (h:=fun p28 cs28 hp28 hr28=>?_);obtain ⟨rfl,hi28,hj28⟩:=DotRp.open hr28;refine .quiet (.g rfl rfl) rfl (fun _=>.fieldAddr fld191x0 rfl)<|.quiet (.g rfl rfl) rfl (fun _=>.loadAt flat3 rfl hp28 rfl) ?_;refine .quiet (.g rfl rfl) rfl (fun _=>.geq rfl rfl)<|OD.sF 31 rfl (by exact decide_eq_false zB) ?_;refine OD.q 2 rfl<|ODx.nil<|S.condF rfl<|S.skip<|S.inBlock<|S.region rfl<|O.q 1 rfl<|O.op (.p rfl) (.add rfl rfl (IntWalk.i64_in _ zB))<|O.q 1 rfl<|O.nil ?_;exact S.wk (ih (k+1) (by exact ⟨by omega,hst.2 ⟨hd,fun _=>hlt⟩⟩) zB)
    ·
     refine S.skip<|S.seq<|S.block<|S.seq<|S.regionD (L:=[0,1,2,3,4,5,6,7,8,9,10,11,12,13,14,15,16,17,18,19,20,21,22,23]) F.mixed zC<|OD.q 2 rfl<|OD.ia (.p rfl) underlying100 size191 rfl rfl rfl (by first|assumption|exact Arr.mono hg zE|exact Arr.left zE|exact Arr.left (Arr.mono hg zE)) (h:=fun p12 cs12 hp12 hr12=>?_);obtain ⟨rfl,hi12,hj12⟩:=DotRp.open hr12;refine .quiet (.p rfl) rfl (fun _=>.loadAgg isAgg191 zC rfl hp12) ?_;refine OD.call0 (.p rfl) zC rfl zC rfl rfl ((r7dot_c v[k] rfl)) ?_;rintro _ _ ⟨rfl,rfl⟩
     try simp only [zx1,zx2,zx3]
     refine OD.sT 14 rfl (by exact hd) ?_;refine .quiet (.p rfl) rfl (fun _=>.not rfl)<|OD.q 2 rfl<|.quiet (.g rfl rfl) rfl (fun _=>.gtr rfl rfl)<|OD.sT 18 rfl (by exact decide_eq_true zB) ?_;refine OD.q 3 rfl<|.quiet (.g rfl rfl) rfl (fun _=>.sub rfl rfl (IntWalk.i64_in _ zB))<|OD.ia (.g rfl rfl) underlying100 size191 rfl rfl (show _=(((k - 1):Nat):Int) by omega) (by first|assumption|exact Arr.mono hg zE|exact Arr.left zE|exact Arr.left (Arr.mono hg zE)) (h:=fun p23 cs23 hp23 hr23=>?_);obtain ⟨rfl,hi23,hj23⟩:=DotRp.open hr23;refine .quiet (.g rfl rfl) rfl (fun _=>.fieldAddr fld191x0 rfl)<|.quiet (.g rfl rfl) rfl (fun _=>.loadAt flat3 rfl hp23 rfl) ?_;refine OD.q 2 rfl<|OD.ia (.g rfl rfl) underlying100 size191 rfl rfl rfl (by first|assumption|exact Arr.mono hg zE|exact Arr.left zE|exact Arr.left (Arr.mono hg zE)) (h:=fun p28 cs28 hp28 hr28=>?_);obtain ⟨rfl,hi28,hj28⟩:=DotRp.open hr28;refine .quiet (.g rfl rfl) rfl (fun _=>.fieldAddr fld191x0 rfl)<|.quiet (.g rfl rfl) rfl (fun _=>.loadAt flat3 rfl hp28 rfl) ?_;refine .quiet (.g rfl rfl) rfl (fun _=>.geq rfl rfl)<|OD.sT 31 rfl (by exact decide_eq_true zB) ?_;refine OD.q 2 rfl<|ODx.nil<|S.condT rfl<|S.seq<|S.region rfl<|O.q 1 rfl<|O.nil ?_;exact S.rt results336 rfl hR ⟨congrArg _ (vecOk_none (i:=k+1) (Bool.eq_false_iff.2 fun e=>hlt ((hst.1 e).2 zB))).symm,rfl⟩
  ·have hd' :dotOk v[k]=false:=by simpa using hd
   refine S.skip<|S.seq<|S.block<|S.seq<|S.regionD (L:=[0,1,2,3,4,5,6,7,8,9,10,11,12,13,14,15,16,17,18,19,20,21,22,23]) F.mixed zC<|OD.q 2 rfl<|OD.ia (.p rfl) underlying100 size191 rfl rfl rfl (by first|assumption|exact Arr.mono hg zE|exact Arr.left zE|exact Arr.left (Arr.mono hg zE)) (h:=fun p12 cs12 hp12 hr12=>?_);obtain ⟨rfl,hi12,hj12⟩:=DotRp.open hr12;refine .quiet (.p rfl) rfl (fun _=>.loadAgg isAgg191 zC rfl hp12) ?_;refine OD.call0 (.p rfl) zC rfl zC rfl rfl ((r7dot_c v[k] rfl)) ?_;rintro _ _ ⟨rfl,rfl⟩
   try simp only [zx1,zx2,zx3]
   refine OD.sF 14 rfl (by exact hd') ?_;refine .quiet (.p rfl) rfl (fun _=>.not rfl)<|OD.q 18 rfl<|ODx.nil<|S.condT rfl<|S.seq<|S.region rfl<|O.q 1 rfl<|O.nil ?_;exact S.rt results336 rfl hR ⟨congrArg _ (vecOk_none (i:=k+1) (Bool.eq_false_iff.2 fun e=>hd (hst.1 e).1)).symm,rfl⟩
 ·clear ih
  have hk:k=v.length:=by omega
  subst hk;rw [List.take_length] at hx2;refine S.exit rfl<|S.seq<|S.region rfl<|O.q 1 rfl<|O.nil ?_;exact S.rt results336 rfl hR ⟨by rw [hx2],rfl⟩
theorem r7up_c {r:Fr} {va:Value} {v:List DotT} (c:Int) (ha:Arr DotRp r va v) (ho:vecOk v=true) :
  Con prog 337 #[va,.int .i64 c] r [] (Ret fun u η=>∃ z,u=.int .i64 z∧(∀ s,1≤s→decide (s≤z)=hasM v (c,s,()))∧η=[]):=by
 have hri:=(vecOk_iff.1 ho).2;refine Con.of (n:=24) _ rfl func337 rfl rfl rfl fun g hg R hR=>?_;have ha:=ha.mono hg;have hbd:=ha.bound;obtain ⟨a1,c1,rfl⟩:=ha.shape;refine S.seq<|S.region rfl<|O.q 1 rfl<|O.nil<|S.seq<|S.seq<|S.region rfl<|O.q 1 rfl<|O.nil<|S.block<|S.loopK (ι:=Nat) (fun k=>k≤v.length∧∀ x∈v.take k,¬ x.1=c) (fun k=>[(5,.int .i64 (k:Int))]) [(0,_),(1,_)] (fun k=>[]) (fun k=>v.length - k) (0) (by exact ⟨by simp,by simp⟩) (.cons rfl (.nil)) (.cons rfl (.cons rfl (.nil))) rfl fun k hx ih=>?_;have hm1:=meltRefl (g:=g);obtain ⟨hx1,hx2⟩:=hx;refine S.seq<|S.seq<|S.region rfl<|O.q 2 rfl<|O.op (.p rfl) (.len rfl underlying100 rfl)<|O.op (.p rfl) (.lss rfl rfl)<|O.nil ?_
 first|refine S.condD rfl (fun h9=>?_) (fun h9=>?_)|refine S.condB rfl (fun h9=>?_) (fun h9=>?_)
 ·have hk:k<v.length:=by omega
  by_cases e:v[k].1=c
  ·
   refine S.skip<|S.seq<|S.block<|S.seq<|S.region rfl<|O.q 2 rfl<|O.ia (.p rfl) underlying100 size191 rfl rfl rfl (by first|assumption|exact Arr.mono hg zE|exact Arr.left zE|exact Arr.left (Arr.mono hg zE)) (h:=fun p14 cs14 hp14 hr14=>?_);obtain ⟨rfl,hi14,hj14⟩:=DotRp.open hr14;refine O.op (.p rfl) (.fieldAddr fld191x0 rfl)<|O.op (.p rfl) (.loadAt flat3 rfl hp14 rfl) ?_;refine O.q 1 rfl<|O.op (.p rfl) (.eql rfl rfl)<|O.sT 18 rfl (by exact decide_eq_true e) ?_;refine O.nil<|S.condT rfl<|S.seq<|S.region rfl<|O.q 2 rfl<|O.ia (.p rfl) underlying100 size191 rfl rfl rfl (by first|assumption|exact Arr.mono hg zE|exact Arr.left zE|exact Arr.left (Arr.mono hg zE)) (h:=fun p21 cs21 hp21 hr21=>?_);obtain ⟨rfl,hi21,hj21⟩:=DotRp.open hr21;refine O.op (.p rfl) (.fieldAddr fld191x1 rfl)<|O.op (.p rfl) (.loadAt flat3 rfl (hp21.drop 1) rfl) ?_;refine O.q 1 rfl<|O.nil ?_;exact S.rt results337 rfl hR ⟨_,rfl,fun s _=>(hasM_at (d:=(c,s,())) hri hk e).symm,rfl⟩
  ·
   refine S.skip<|S.seq<|S.block<|S.seq<|S.region rfl<|O.q 2 rfl<|O.ia (.p rfl) underlying100 size191 rfl rfl rfl (by first|assumption|exact Arr.mono hg zE|exact Arr.left zE|exact Arr.left (Arr.mono hg zE)) (h:=fun p14 cs14 hp14 hr14=>?_);obtain ⟨rfl,hi14,hj14⟩:=DotRp.open hr14;refine O.op (.p rfl) (.fieldAddr fld191x0 rfl)<|O.op (.p rfl) (.loadAt flat3 rfl hp14 rfl) ?_;refine O.q 1 rfl<|O.op (.p rfl) (.eql rfl rfl)<|O.sF 18 rfl (by exact decide_eq_false e) ?_;refine O.nil<|S.condF rfl<|S.skip<|S.inBlock<|S.region rfl<|O.q 1 rfl<|O.op (.p rfl) (.add rfl rfl (IntWalk.i64_in _ zB))<|O.q 1 rfl<|O.nil ?_;exact S.wk (ih (k+1) (by exact ⟨by omega,mem_take_succ hk hx2 e⟩) zB)
 ·clear ih
  have hk:k=v.length:=by omega
  subst hk;rw [List.take_length] at hx2;refine S.exit rfl<|S.seq<|S.region rfl<|O.q 1 rfl<|O.nil ?_;exact S.rt results337 rfl hR ⟨0,rfl,fun s hs=>by rw [decide_eq_false zB];exact (List.any_eq_false.2 fun x hx=>by simp [hx2 x hx]).symm,rfl⟩
theorem r7has_c {r:Fr} {va:Value} {v:List DotT} {a b:Int} (d:DotT) (h:d=(a,b,())) (ha:Arr DotRp r va v) :
  Con prog 300 #[va,.agg #[.int .i64 a,.int .i64 b]] r [] (Ret fun u η=>u=.bool (hasR v d)∧η=[]):=by
 subst h;refine Con.of (n:=20) _ rfl func300 rfl rfl rfl fun g hg R hR=>?_;have ha:=ha.mono hg;obtain ⟨a1,c1,rfl⟩:=ha.shape;refine S.seq<|S.region rfl<|O.opE (.p rfl) (.box (cs:=[_,_]) rfl rfl) ?_;rintro _ _ ⟨b3,rfl,rfl⟩;refine O.q 1 rfl<|O.nil<|S.seq<|S.frzO zD fun g hs hm hb3=>?_;replace hg:=Fr.sub_trans hg hs;replace hR:=melted hR hm
 try replace ha:=ha.mono hs
 clear hs hm
 cases e1:vecOk v with
 |false =>
  refine S.regionD (L:=[0,1,2,3,4,5,6,7,8,9,11,12,10,13,14,15]) F.mixed zC ?_;refine OD.q 1 rfl<|OD.call0 (.p rfl) zC rfl zC rfl rfl ((r7right_c ha)) ?_;rintro _ _ ⟨rfl,rfl⟩
  try simp only [zx1,zx2,zx3]
  refine OD.sF 6 rfl (by exact e1) ?_;refine OD.q 14 rfl<|ODx.nil ?_;exact S.rt results300 rfl hR ⟨by simp [hasR,e1],rfl⟩
 |true =>
  cases e2:dotOk (a,b,()) with
  |false =>
   refine S.regionD (L:=[0,1,2,3,4,5,6,7,8,9,11,12,10,13,14,15]) F.mixed zC ?_;refine OD.q 1 rfl<|OD.call0 (.p rfl) zC rfl zC rfl rfl ((r7right_c ha)) ?_;rintro _ _ ⟨rfl,rfl⟩
   try simp only [zx1,zx2,zx3]
   refine OD.sT 6 rfl (by exact e1) ?_;refine OD.q 1 rfl<|.quiet (.g rfl rfl) rfl (fun _=>.loadAgg isAgg191 zC rfl hb3) ?_;refine OD.call0 (.g rfl rfl) zC rfl zC rfl rfl ((r7dot_c _ rfl)) ?_;rintro _ _ ⟨rfl,rfl⟩
   try simp only [zx1,zx2,zx3]
   refine OD.sF 9 rfl (by exact e2) ?_;refine OD.q 11 rfl<|ODx.nil ?_;exact S.rt results300 rfl hR ⟨by simp [hasR,e1,e2],rfl⟩
  |true =>
   have hb:=(dotOk_iff.1 e2).2.2.1;refine S.regionD (L:=[0,1,2,3,4,5,6,7,8,9,11,12,10,13,14,15]) F.mixed zC ?_;refine OD.q 1 rfl<|OD.call0 (.p rfl) zC rfl zC rfl rfl ((r7right_c ha)) ?_;rintro _ _ ⟨rfl,rfl⟩
   try simp only [zx1,zx2,zx3]
   refine OD.sT 6 rfl (by exact e1) ?_;refine OD.q 1 rfl<|.quiet (.g rfl rfl) rfl (fun _=>.loadAgg isAgg191 zC rfl hb3) ?_;refine OD.call0 (.g rfl rfl) zC rfl zC rfl rfl ((r7dot_c _ rfl)) ?_;rintro _ _ ⟨rfl,rfl⟩
   try simp only [zx1,zx2,zx3]
   refine OD.sT 9 rfl (by exact e2) ?_;refine OD.q 3 rfl<|.quiet (.g rfl rfl) rfl (fun _=>.fieldAddr fld191x0 rfl)<|.quiet (.g rfl rfl) rfl (fun _=>.loadAt flat3 rfl hb3 rfl) ?_;refine .quiet (.g rfl rfl) rfl (fun _=>.fieldAddr fld191x1 rfl)<|.quiet (.g rfl rfl) rfl (fun _=>.loadAt flat3 rfl (hb3.drop 1) rfl) ?_;refine OD.call0 (.g rfl rfl) zC rfl zC rfl rfl ((r7up_c _ ha e1)) ?_;rintro v15 _ ⟨z,rfl,hz,rfl⟩
   try simp only [zx1,zx2,zx3]
   refine .quiet (.g rfl rfl) rfl (fun _=>.geq rfl rfl)<|OD.q 2 rfl<|ODx.nil ?_;exact S.rt results300 rfl hR ⟨congrArg _ (by rw [hasR,e1,e2,← hz b hb];rfl),rfl⟩
theorem r8shape_c {r:Fr} {cs:List Value} {x:RecT} (h:RecRp.rel r cs x):Con prog 299 #[.agg cs.toArray] r [] (Ret fun v η=>v=.bool (shaped x)∧η=[]):=by
 obtain ⟨xa3,xa5,xa6,xc3,xc5,xc6,rfl,k0,k1,k2,k3,k5,k6⟩:=RecRp.sh h;have hz0:=str_size x.1;refine Con.of (n:=51) _ rfl func299 rfl rfl rfl fun g hg R hR=>?_;have h:=h.mono hg;have k3:=k3.mono hg;have k5:=k5.mono hg;have k6:=k6.mono hg;refine S.seq<|S.region rfl<|O.opE (.p rfl) (.box (cs:=[_,_,_,_,_,_,_]) rfl rfl) ?_;rintro _ _ ⟨b1,rfl,rfl⟩;refine O.q 1 rfl<|O.nil<|S.seq<|S.frzO zD fun g hs hm hb1=>?_;replace hg:=Fr.sub_trans hg hs;replace hR:=melted hR hm
 try replace h:=h.mono hs
 try replace k3:=k3.mono hs
 try replace k5:=k5.mono hs
 try replace k6:=k6.mono hs
 clear hs hm
 by_cases n0:¬ (1≤x.1.length)
 ·
  refine S.region rfl<|O.op (.p rfl) (.fieldAddr fld102x1 rfl)<|O.op (.p rfl) (.loadAt flat3 rfl (hb1.drop 1) rfl) ?_;refine O.op (.p rfl) (.fieldAddr fld102x2 rfl)<|O.op (.p rfl) (.loadAt flat3 rfl (hb1.drop 2) rfl) ?_;refine O.op (.p rfl) (.build (cs:=[_,_]) underlying191 rfl rfl rfl rfl rfl)<|O.opE (.p rfl) (.alloc (cs:=[.int .i64 0,.int .i64 0]) zeroValue191 rfl) ?_;rintro _ _ ⟨b3,rfl,rfl⟩;refine O.opU rfl (.storeObj zC rfl rfl rfl rfl zD zJ) ?_;refine O.nil<|S.seq<|S.seq<|S.frzO zD fun g hs hm hb3=>?_;replace hg:=Fr.sub_trans hg hs;replace hR:=melted hR hm
  try replace h:=h.mono hs
  try replace k3:=k3.mono hs
  try replace k5:=k5.mono hs
  try replace k6:=k6.mono hs
  try replace hb1:=hb1.mono hs
  clear hs hm;refine S.region rfl<|O.op (.p rfl) (.fieldAddr fld102x0 rfl)<|O.op (.p rfl) (.loadAt flat9 rfl hb1 rfl) ?_;refine O.op (.p rfl) (.lenS rfl underlying9 rfl)<|O.op (.p rfl) (.lss rfl rfl)<|O.sT 12 rfl (by exact decide_eq_true (by rw [hz0];omega)) ?_;refine O.q 23 rfl<|O.nil<|S.condT rfl<|S.seq<|S.region rfl<|O.q 1 rfl<|O.nil ?_;exact S.rt results299 rfl hR ⟨congrArg _ (Bool.eq_false_iff.2 fun q=>n0 (shaped_iff.1 q).1).symm,rfl⟩
 have c0:=Classical.not_not.1 n0
 by_cases n1:¬ (x.1.length≤64)
 ·
  refine S.region rfl<|O.op (.p rfl) (.fieldAddr fld102x1 rfl)<|O.op (.p rfl) (.loadAt flat3 rfl (hb1.drop 1) rfl) ?_;refine O.op (.p rfl) (.fieldAddr fld102x2 rfl)<|O.op (.p rfl) (.loadAt flat3 rfl (hb1.drop 2) rfl) ?_;refine O.op (.p rfl) (.build (cs:=[_,_]) underlying191 rfl rfl rfl rfl rfl)<|O.opE (.p rfl) (.alloc (cs:=[.int .i64 0,.int .i64 0]) zeroValue191 rfl) ?_;rintro _ _ ⟨b3,rfl,rfl⟩;refine O.opU rfl (.storeObj zC rfl rfl rfl rfl zD zJ) ?_;refine O.nil<|S.seq<|S.seq<|S.frzO zD fun g hs hm hb3=>?_;replace hg:=Fr.sub_trans hg hs;replace hR:=melted hR hm
  try replace h:=h.mono hs
  try replace k3:=k3.mono hs
  try replace k5:=k5.mono hs
  try replace k6:=k6.mono hs
  try replace hb1:=hb1.mono hs
  clear hs hm;refine S.region rfl<|O.op (.p rfl) (.fieldAddr fld102x0 rfl)<|O.op (.p rfl) (.loadAt flat9 rfl hb1 rfl) ?_;refine O.op (.p rfl) (.lenS rfl underlying9 rfl)<|O.op (.p rfl) (.lss rfl rfl)<|O.sF 12 rfl (by exact decide_eq_false (by rw [hz0];omega)) ?_;refine O.q 1 rfl<|O.op (.g rfl rfl) (.fieldAddr fld102x0 rfl)<|O.op (.g rfl rfl) (.loadAt flat9 rfl hb1 rfl) ?_;refine O.op (.g rfl rfl) (.lenS rfl underlying9 rfl)<|O.op (.g rfl rfl) (.gtr rfl rfl)<|O.sT 17 rfl (by exact decide_eq_true (by rw [hz0];omega)) ?_;refine O.q 18 rfl<|O.nil<|S.condT rfl<|S.seq<|S.region rfl<|O.q 1 rfl<|O.nil ?_;exact S.rt results299 rfl hR ⟨congrArg _ (Bool.eq_false_iff.2 fun q=>n1 (shaped_iff.1 q).2.1).symm,rfl⟩
 have c1:=Classical.not_not.1 n1
 by_cases n2:¬ (dotOk (rDot x)=true)
 ·
  refine S.region rfl<|O.op (.p rfl) (.fieldAddr fld102x1 rfl)<|O.op (.p rfl) (.loadAt flat3 rfl (hb1.drop 1) rfl) ?_;refine O.op (.p rfl) (.fieldAddr fld102x2 rfl)<|O.op (.p rfl) (.loadAt flat3 rfl (hb1.drop 2) rfl) ?_;refine O.op (.p rfl) (.build (cs:=[_,_]) underlying191 rfl rfl rfl rfl rfl)<|O.opE (.p rfl) (.alloc (cs:=[.int .i64 0,.int .i64 0]) zeroValue191 rfl) ?_;rintro _ _ ⟨b3,rfl,rfl⟩;refine O.opU rfl (.storeObj zC rfl rfl rfl rfl zD zJ) ?_;refine O.nil<|S.seq<|S.seq<|S.frzO zD fun g hs hm hb3=>?_;replace hg:=Fr.sub_trans hg hs;replace hR:=melted hR hm
  try replace h:=h.mono hs
  try replace k3:=k3.mono hs
  try replace k5:=k5.mono hs
  try replace k6:=k6.mono hs
  try replace hb1:=hb1.mono hs
  clear hs hm;refine S.region rfl<|O.op (.p rfl) (.fieldAddr fld102x0 rfl)<|O.op (.p rfl) (.loadAt flat9 rfl hb1 rfl) ?_;refine O.op (.p rfl) (.lenS rfl underlying9 rfl)<|O.op (.p rfl) (.lss rfl rfl)<|O.sF 12 rfl (by exact decide_eq_false (by rw [hz0];omega)) ?_;refine O.q 1 rfl<|O.op (.g rfl rfl) (.fieldAddr fld102x0 rfl)<|O.op (.g rfl rfl) (.loadAt flat9 rfl hb1 rfl) ?_;refine O.op (.g rfl rfl) (.lenS rfl underlying9 rfl)<|O.op (.g rfl rfl) (.gtr rfl rfl)<|O.sF 17 rfl (by exact decide_eq_false (by rw [hz0];omega)) ?_;refine O.q 2 rfl<|O.op (.g rfl rfl) (.loadAgg isAgg191 zC rfl hb3) ?_;refine O.call0 (.g rfl rfl) rfl zC rfl rfl ((r7dot_c (rDot x) rfl)) ?_;rintro _ _ ⟨rfl,rfl⟩
  try simp only [zx1,zx2,zx3]
  refine O.sF 21 rfl (by exact (by simpa using n2)) ?_;refine O.op (.g rfl rfl) (.not rfl)<|O.q 13 rfl<|O.nil<|S.condT rfl<|S.seq<|S.region rfl<|O.q 1 rfl<|O.nil ?_;exact S.rt results299 rfl hR ⟨congrArg _ (Bool.eq_false_iff.2 fun q=>n2 (shaped_iff.1 q).2.2.1).symm,rfl⟩
 have c2:=Classical.not_not.1 n2
 by_cases n3:¬ (vecOk x.2.2.2.1=true)
 ·
  refine S.region rfl<|O.op (.p rfl) (.fieldAddr fld102x1 rfl)<|O.op (.p rfl) (.loadAt flat3 rfl (hb1.drop 1) rfl) ?_;refine O.op (.p rfl) (.fieldAddr fld102x2 rfl)<|O.op (.p rfl) (.loadAt flat3 rfl (hb1.drop 2) rfl) ?_;refine O.op (.p rfl) (.build (cs:=[_,_]) underlying191 rfl rfl rfl rfl rfl)<|O.opE (.p rfl) (.alloc (cs:=[.int .i64 0,.int .i64 0]) zeroValue191 rfl) ?_;rintro _ _ ⟨b3,rfl,rfl⟩;refine O.opU rfl (.storeObj zC rfl rfl rfl rfl zD zJ) ?_;refine O.nil<|S.seq<|S.seq<|S.frzO zD fun g hs hm hb3=>?_;replace hg:=Fr.sub_trans hg hs;replace hR:=melted hR hm
  try replace h:=h.mono hs
  try replace k3:=k3.mono hs
  try replace k5:=k5.mono hs
  try replace k6:=k6.mono hs
  try replace hb1:=hb1.mono hs
  clear hs hm;refine S.region rfl<|O.op (.p rfl) (.fieldAddr fld102x0 rfl)<|O.op (.p rfl) (.loadAt flat9 rfl hb1 rfl) ?_;refine O.op (.p rfl) (.lenS rfl underlying9 rfl)<|O.op (.p rfl) (.lss rfl rfl)<|O.sF 12 rfl (by exact decide_eq_false (by rw [hz0];omega)) ?_;refine O.q 1 rfl<|O.op (.g rfl rfl) (.fieldAddr fld102x0 rfl)<|O.op (.g rfl rfl) (.loadAt flat9 rfl hb1 rfl) ?_;refine O.op (.g rfl rfl) (.lenS rfl underlying9 rfl)<|O.op (.g rfl rfl) (.gtr rfl rfl)<|O.sF 17 rfl (by exact decide_eq_false (by rw [hz0];omega)) ?_;refine O.q 2 rfl<|O.op (.g rfl rfl) (.loadAgg isAgg191 zC rfl hb3) ?_;refine O.call0 (.g rfl rfl) rfl zC rfl rfl ((r7dot_c (rDot x) rfl)) ?_;rintro _ _ ⟨rfl,rfl⟩
  try simp only [zx1,zx2,zx3]
  refine O.sT 21 rfl (by exact c2) ?_;refine O.op (.g rfl rfl) (.not rfl)<|O.q 2 rfl<|O.op (.g rfl rfl) (.fieldAddr fld102x3 rfl)<|O.op (.g rfl rfl) (.loadAt flat100 rfl (hb1.drop 3) rfl) ?_;refine O.call0 (.g rfl rfl) rfl zC rfl rfl ((r7right_c k3)) ?_;rintro _ _ ⟨rfl,rfl⟩
  try simp only [zx1,zx2,zx3]
  refine O.sF 27 rfl (by exact (by simpa using n3)) ?_;refine O.op (.g rfl rfl) (.not rfl)<|O.q 7 rfl<|O.nil<|S.condT rfl<|S.seq<|S.region rfl<|O.q 1 rfl<|O.nil ?_;exact S.rt results299 rfl hR ⟨congrArg _ (Bool.eq_false_iff.2 fun q=>n3 (shaped_iff.1 q).2.2.2.1).symm,rfl⟩
 have c3:=Classical.not_not.1 n3
 by_cases n4:¬ (hasR x.2.2.2.1 (rDot x)=false)
 ·
  refine S.region rfl<|O.op (.p rfl) (.fieldAddr fld102x1 rfl)<|O.op (.p rfl) (.loadAt flat3 rfl (hb1.drop 1) rfl) ?_;refine O.op (.p rfl) (.fieldAddr fld102x2 rfl)<|O.op (.p rfl) (.loadAt flat3 rfl (hb1.drop 2) rfl) ?_;refine O.op (.p rfl) (.build (cs:=[_,_]) underlying191 rfl rfl rfl rfl rfl)<|O.opE (.p rfl) (.alloc (cs:=[.int .i64 0,.int .i64 0]) zeroValue191 rfl) ?_;rintro _ _ ⟨b3,rfl,rfl⟩;refine O.opU rfl (.storeObj zC rfl rfl rfl rfl zD zJ) ?_;refine O.nil<|S.seq<|S.seq<|S.frzO zD fun g hs hm hb3=>?_;replace hg:=Fr.sub_trans hg hs;replace hR:=melted hR hm
  try replace h:=h.mono hs
  try replace k3:=k3.mono hs
  try replace k5:=k5.mono hs
  try replace k6:=k6.mono hs
  try replace hb1:=hb1.mono hs
  clear hs hm;refine S.region rfl<|O.op (.p rfl) (.fieldAddr fld102x0 rfl)<|O.op (.p rfl) (.loadAt flat9 rfl hb1 rfl) ?_;refine O.op (.p rfl) (.lenS rfl underlying9 rfl)<|O.op (.p rfl) (.lss rfl rfl)<|O.sF 12 rfl (by exact decide_eq_false (by rw [hz0];omega)) ?_;refine O.q 1 rfl<|O.op (.g rfl rfl) (.fieldAddr fld102x0 rfl)<|O.op (.g rfl rfl) (.loadAt flat9 rfl hb1 rfl) ?_;refine O.op (.g rfl rfl) (.lenS rfl underlying9 rfl)<|O.op (.g rfl rfl) (.gtr rfl rfl)<|O.sF 17 rfl (by exact decide_eq_false (by rw [hz0];omega)) ?_;refine O.q 2 rfl<|O.op (.g rfl rfl) (.loadAgg isAgg191 zC rfl hb3) ?_;refine O.call0 (.g rfl rfl) rfl zC rfl rfl ((r7dot_c (rDot x) rfl)) ?_;rintro _ _ ⟨rfl,rfl⟩
  try simp only [zx1,zx2,zx3]
  refine O.sT 21 rfl (by exact c2) ?_;refine O.op (.g rfl rfl) (.not rfl)<|O.q 2 rfl<|O.op (.g rfl rfl) (.fieldAddr fld102x3 rfl)<|O.op (.g rfl rfl) (.loadAt flat100 rfl (hb1.drop 3) rfl) ?_;refine O.call0 (.g rfl rfl) rfl zC rfl rfl ((r7right_c k3)) ?_;rintro _ _ ⟨rfl,rfl⟩
  try simp only [zx1,zx2,zx3]
  refine O.sT 27 rfl (by exact c3) ?_;refine O.op (.g rfl rfl) (.not rfl)<|O.q 2 rfl<|O.op (.g rfl rfl) (.fieldAddr fld102x3 rfl)<|O.op (.g rfl rfl) (.loadAt flat100 rfl (hb1.drop 3) rfl) ?_;refine O.op (.g rfl rfl) (.loadAgg isAgg191 zC rfl hb3) ?_;refine O.call0 (.g rfl rfl) rfl zC rfl rfl ((r7has_c (rDot x) rfl k3)) ?_;rintro _ _ ⟨rfl,rfl⟩
  try simp only [zx1,zx2,zx3]
  refine O.sT 34 rfl (by exact (by simpa using n4)) ?_;refine O.q 1 rfl<|O.nil<|S.condT rfl<|S.seq<|S.region rfl<|O.q 1 rfl<|O.nil ?_;exact S.rt results299 rfl hR ⟨congrArg _ (Bool.eq_false_iff.2 fun q=>n4 (shaped_iff.1 q).2.2.2.2.1).symm,rfl⟩
 have c4:=Classical.not_not.1 n4
 by_cases n5:¬ (x.2.2.2.2.2.1.length≤1024)
 ·
  refine S.region rfl<|O.op (.p rfl) (.fieldAddr fld102x1 rfl)<|O.op (.p rfl) (.loadAt flat3 rfl (hb1.drop 1) rfl) ?_;refine O.op (.p rfl) (.fieldAddr fld102x2 rfl)<|O.op (.p rfl) (.loadAt flat3 rfl (hb1.drop 2) rfl) ?_;refine O.op (.p rfl) (.build (cs:=[_,_]) underlying191 rfl rfl rfl rfl rfl)<|O.opE (.p rfl) (.alloc (cs:=[.int .i64 0,.int .i64 0]) zeroValue191 rfl) ?_;rintro _ _ ⟨b3,rfl,rfl⟩;refine O.opU rfl (.storeObj zC rfl rfl rfl rfl zD zJ) ?_;refine O.nil<|S.seq<|S.seq<|S.frzO zD fun g hs hm hb3=>?_;replace hg:=Fr.sub_trans hg hs;replace hR:=melted hR hm
  try replace h:=h.mono hs
  try replace k3:=k3.mono hs
  try replace k5:=k5.mono hs
  try replace k6:=k6.mono hs
  try replace hb1:=hb1.mono hs
  clear hs hm;refine S.region rfl<|O.op (.p rfl) (.fieldAddr fld102x0 rfl)<|O.op (.p rfl) (.loadAt flat9 rfl hb1 rfl) ?_;refine O.op (.p rfl) (.lenS rfl underlying9 rfl)<|O.op (.p rfl) (.lss rfl rfl)<|O.sF 12 rfl (by exact decide_eq_false (by rw [hz0];omega)) ?_;refine O.q 1 rfl<|O.op (.g rfl rfl) (.fieldAddr fld102x0 rfl)<|O.op (.g rfl rfl) (.loadAt flat9 rfl hb1 rfl) ?_;refine O.op (.g rfl rfl) (.lenS rfl underlying9 rfl)<|O.op (.g rfl rfl) (.gtr rfl rfl)<|O.sF 17 rfl (by exact decide_eq_false (by rw [hz0];omega)) ?_;refine O.q 2 rfl<|O.op (.g rfl rfl) (.loadAgg isAgg191 zC rfl hb3) ?_;refine O.call0 (.g rfl rfl) rfl zC rfl rfl ((r7dot_c (rDot x) rfl)) ?_;rintro _ _ ⟨rfl,rfl⟩
  try simp only [zx1,zx2,zx3]
  refine O.sT 21 rfl (by exact c2) ?_;refine O.op (.g rfl rfl) (.not rfl)<|O.q 2 rfl<|O.op (.g rfl rfl) (.fieldAddr fld102x3 rfl)<|O.op (.g rfl rfl) (.loadAt flat100 rfl (hb1.drop 3) rfl) ?_;refine O.call0 (.g rfl rfl) rfl zC rfl rfl ((r7right_c k3)) ?_;rintro _ _ ⟨rfl,rfl⟩
  try simp only [zx1,zx2,zx3]
  refine O.sT 27 rfl (by exact c3) ?_;refine O.op (.g rfl rfl) (.not rfl)<|O.q 2 rfl<|O.op (.g rfl rfl) (.fieldAddr fld102x3 rfl)<|O.op (.g rfl rfl) (.loadAt flat100 rfl (hb1.drop 3) rfl) ?_;refine O.op (.g rfl rfl) (.loadAgg isAgg191 zC rfl hb3) ?_;refine O.call0 (.g rfl rfl) rfl zC rfl rfl ((r7has_c (rDot x) rfl k3)) ?_;rintro _ _ ⟨rfl,rfl⟩
  try simp only [zx1,zx2,zx3]
  refine O.sF 34 rfl (by exact c4) ?_;refine O.q 1 rfl<|O.nil<|S.condF rfl<|S.skip<|S.seq<|S.region rfl<|O.op (.p rfl) (.fieldAddr fld102x5 rfl)<|O.op (.p rfl) (.loadAt flat24 rfl (hb1.drop 5) rfl) ?_;refine O.op (.p rfl) (.len rfl underlying24 rfl)<|O.op (.p rfl) (.leq rfl rfl)<|O.sF 39 rfl (by exact decide_eq_false zB) ?_;refine O.q 12 rfl<|O.nil ?_;exact S.rt results299 rfl hR ⟨congrArg _ (Bool.eq_false_iff.2 fun q=>n5 (shaped_iff.1 q).2.2.2.2.2.1).symm,rfl⟩
 have c5:=Classical.not_not.1 n5
 cases g4:x.2.2.2.2.1 with
 |false =>
  have hs:shaped x=true:=shaped_iff.2 ⟨c0,c1,c2,c3,c4,c5,fun q=>by rw [g4] at q;cases q⟩;refine S.region rfl<|O.op (.p rfl) (.fieldAddr fld102x1 rfl)<|O.op (.p rfl) (.loadAt flat3 rfl (hb1.drop 1) rfl) ?_;refine O.op (.p rfl) (.fieldAddr fld102x2 rfl)<|O.op (.p rfl) (.loadAt flat3 rfl (hb1.drop 2) rfl) ?_;refine O.op (.p rfl) (.build (cs:=[_,_]) underlying191 rfl rfl rfl rfl rfl)<|O.opE (.p rfl) (.alloc (cs:=[.int .i64 0,.int .i64 0]) zeroValue191 rfl) ?_;rintro _ _ ⟨b3,rfl,rfl⟩;refine O.opU rfl (.storeObj zC rfl rfl rfl rfl zD zJ) ?_;refine O.nil<|S.seq<|S.seq<|S.frzO zD fun g hs hm hb3=>?_;replace hg:=Fr.sub_trans hg hs;replace hR:=melted hR hm
  try replace h:=h.mono hs
  try replace k3:=k3.mono hs
  try replace k5:=k5.mono hs
  try replace k6:=k6.mono hs
  try replace hb1:=hb1.mono hs
  clear hs hm;refine S.region rfl<|O.op (.p rfl) (.fieldAddr fld102x0 rfl)<|O.op (.p rfl) (.loadAt flat9 rfl hb1 rfl) ?_;refine O.op (.p rfl) (.lenS rfl underlying9 rfl)<|O.op (.p rfl) (.lss rfl rfl)<|O.sF 12 rfl (by exact decide_eq_false (by rw [hz0];omega)) ?_;refine O.q 1 rfl<|O.op (.g rfl rfl) (.fieldAddr fld102x0 rfl)<|O.op (.g rfl rfl) (.loadAt flat9 rfl hb1 rfl) ?_;refine O.op (.g rfl rfl) (.lenS rfl underlying9 rfl)<|O.op (.g rfl rfl) (.gtr rfl rfl)<|O.sF 17 rfl (by exact decide_eq_false (by rw [hz0];omega)) ?_;refine O.q 2 rfl<|O.op (.g rfl rfl) (.loadAgg isAgg191 zC rfl hb3) ?_;refine O.call0 (.g rfl rfl) rfl zC rfl rfl ((r7dot_c (rDot x) rfl)) ?_;rintro _ _ ⟨rfl,rfl⟩
  try simp only [zx1,zx2,zx3]
  refine O.sT 21 rfl (by exact c2) ?_;refine O.op (.g rfl rfl) (.not rfl)<|O.q 2 rfl<|O.op (.g rfl rfl) (.fieldAddr fld102x3 rfl)<|O.op (.g rfl rfl) (.loadAt flat100 rfl (hb1.drop 3) rfl) ?_;refine O.call0 (.g rfl rfl) rfl zC rfl rfl ((r7right_c k3)) ?_;rintro _ _ ⟨rfl,rfl⟩
  try simp only [zx1,zx2,zx3]
  refine O.sT 27 rfl (by exact c3) ?_;refine O.op (.g rfl rfl) (.not rfl)<|O.q 2 rfl<|O.op (.g rfl rfl) (.fieldAddr fld102x3 rfl)<|O.op (.g rfl rfl) (.loadAt flat100 rfl (hb1.drop 3) rfl) ?_;refine O.op (.g rfl rfl) (.loadAgg isAgg191 zC rfl hb3) ?_;refine O.call0 (.g rfl rfl) rfl zC rfl rfl ((r7has_c (rDot x) rfl k3)) ?_;rintro _ _ ⟨rfl,rfl⟩
  try simp only [zx1,zx2,zx3]
  refine O.sF 34 rfl (by exact c4) ?_;refine O.q 1 rfl<|O.nil<|S.condF rfl<|S.skip<|S.seq<|S.region rfl<|O.op (.p rfl) (.fieldAddr fld102x5 rfl)<|O.op (.p rfl) (.loadAt flat24 rfl (hb1.drop 5) rfl) ?_;refine O.op (.p rfl) (.len rfl underlying24 rfl)<|O.op (.p rfl) (.leq rfl rfl)<|O.sT 39 rfl (by exact decide_eq_true zB) ?_;refine O.q 1 rfl<|O.op (.g rfl rfl) (.fieldAddr fld102x4 rfl)<|O.op (.g rfl rfl) (.loadAt flat4 rfl (hb1.drop 4) rfl) ?_;refine O.sF 42 rfl (by exact g4) ?_;refine O.op (.g rfl rfl) (.not rfl)<|O.q 8 rfl<|O.nil ?_;exact S.rt results299 rfl hR ⟨by rw [hs],rfl⟩
 |true =>
  by_cases n6:x.2.2.2.2.2.1.length=0
  ·have hs:shaped x=true:=shaped_iff.2 ⟨c0,c1,c2,c3,c4,c5,fun _=>n6⟩
   refine S.region rfl<|O.op (.p rfl) (.fieldAddr fld102x1 rfl)<|O.op (.p rfl) (.loadAt flat3 rfl (hb1.drop 1) rfl) ?_;refine O.op (.p rfl) (.fieldAddr fld102x2 rfl)<|O.op (.p rfl) (.loadAt flat3 rfl (hb1.drop 2) rfl) ?_;refine O.op (.p rfl) (.build (cs:=[_,_]) underlying191 rfl rfl rfl rfl rfl)<|O.opE (.p rfl) (.alloc (cs:=[.int .i64 0,.int .i64 0]) zeroValue191 rfl) ?_;rintro _ _ ⟨b3,rfl,rfl⟩;refine O.opU rfl (.storeObj zC rfl rfl rfl rfl zD zJ) ?_;refine O.nil<|S.seq<|S.seq<|S.frzO zD fun g hs hm hb3=>?_;replace hg:=Fr.sub_trans hg hs;replace hR:=melted hR hm
   try replace h:=h.mono hs
   try replace k3:=k3.mono hs
   try replace k5:=k5.mono hs
   try replace k6:=k6.mono hs
   try replace hb1:=hb1.mono hs
   clear hs hm;refine S.region rfl<|O.op (.p rfl) (.fieldAddr fld102x0 rfl)<|O.op (.p rfl) (.loadAt flat9 rfl hb1 rfl) ?_;refine O.op (.p rfl) (.lenS rfl underlying9 rfl)<|O.op (.p rfl) (.lss rfl rfl)<|O.sF 12 rfl (by exact decide_eq_false (by rw [hz0];omega)) ?_;refine O.q 1 rfl<|O.op (.g rfl rfl) (.fieldAddr fld102x0 rfl)<|O.op (.g rfl rfl) (.loadAt flat9 rfl hb1 rfl) ?_;refine O.op (.g rfl rfl) (.lenS rfl underlying9 rfl)<|O.op (.g rfl rfl) (.gtr rfl rfl)<|O.sF 17 rfl (by exact decide_eq_false (by rw [hz0];omega)) ?_;refine O.q 2 rfl<|O.op (.g rfl rfl) (.loadAgg isAgg191 zC rfl hb3) ?_;refine O.call0 (.g rfl rfl) rfl zC rfl rfl ((r7dot_c (rDot x) rfl)) ?_;rintro _ _ ⟨rfl,rfl⟩
   try simp only [zx1,zx2,zx3]
   refine O.sT 21 rfl (by exact c2) ?_;refine O.op (.g rfl rfl) (.not rfl)<|O.q 2 rfl<|O.op (.g rfl rfl) (.fieldAddr fld102x3 rfl)<|O.op (.g rfl rfl) (.loadAt flat100 rfl (hb1.drop 3) rfl) ?_;refine O.call0 (.g rfl rfl) rfl zC rfl rfl ((r7right_c k3)) ?_;rintro _ _ ⟨rfl,rfl⟩
   try simp only [zx1,zx2,zx3]
   refine O.sT 27 rfl (by exact c3) ?_;refine O.op (.g rfl rfl) (.not rfl)<|O.q 2 rfl<|O.op (.g rfl rfl) (.fieldAddr fld102x3 rfl)<|O.op (.g rfl rfl) (.loadAt flat100 rfl (hb1.drop 3) rfl) ?_;refine O.op (.g rfl rfl) (.loadAgg isAgg191 zC rfl hb3) ?_;refine O.call0 (.g rfl rfl) rfl zC rfl rfl ((r7has_c (rDot x) rfl k3)) ?_;rintro _ _ ⟨rfl,rfl⟩
   try simp only [zx1,zx2,zx3]
   refine O.sF 34 rfl (by exact c4) ?_;refine O.q 1 rfl<|O.nil<|S.condF rfl<|S.skip<|S.seq<|S.region rfl<|O.op (.p rfl) (.fieldAddr fld102x5 rfl)<|O.op (.p rfl) (.loadAt flat24 rfl (hb1.drop 5) rfl) ?_;refine O.op (.p rfl) (.len rfl underlying24 rfl)<|O.op (.p rfl) (.leq rfl rfl)<|O.sT 39 rfl (by exact decide_eq_true zB) ?_;refine O.q 1 rfl<|O.op (.g rfl rfl) (.fieldAddr fld102x4 rfl)<|O.op (.g rfl rfl) (.loadAt flat4 rfl (hb1.drop 4) rfl) ?_;refine O.sT 42 rfl (by exact g4) ?_;refine O.op (.g rfl rfl) (.not rfl)<|O.q 1 rfl<|O.op (.g rfl rfl) (.fieldAddr fld102x5 rfl)<|O.op (.g rfl rfl) (.loadAt flat24 rfl (hb1.drop 5) rfl) ?_;refine O.op (.g rfl rfl) (.len rfl underlying24 rfl)<|O.op (.g rfl rfl) (.eql rfl rfl)<|O.sT 48 rfl (by exact decide_eq_true zB) ?_;refine O.q 3 rfl<|O.nil ?_;exact S.rt results299 rfl hR ⟨by rw [hs],rfl⟩
  ·have hs:shaped x=false:=Bool.eq_false_iff.2 fun q=>n6 ((shaped_iff.1 q).2.2.2.2.2.2 g4)
   refine S.region rfl<|O.op (.p rfl) (.fieldAddr fld102x1 rfl)<|O.op (.p rfl) (.loadAt flat3 rfl (hb1.drop 1) rfl) ?_;refine O.op (.p rfl) (.fieldAddr fld102x2 rfl)<|O.op (.p rfl) (.loadAt flat3 rfl (hb1.drop 2) rfl) ?_;refine O.op (.p rfl) (.build (cs:=[_,_]) underlying191 rfl rfl rfl rfl rfl)<|O.opE (.p rfl) (.alloc (cs:=[.int .i64 0,.int .i64 0]) zeroValue191 rfl) ?_;rintro _ _ ⟨b3,rfl,rfl⟩;refine O.opU rfl (.storeObj zC rfl rfl rfl rfl zD zJ) ?_;refine O.nil<|S.seq<|S.seq<|S.frzO zD fun g hs hm hb3=>?_;replace hg:=Fr.sub_trans hg hs;replace hR:=melted hR hm
   try replace h:=h.mono hs
   try replace k3:=k3.mono hs
   try replace k5:=k5.mono hs
   try replace k6:=k6.mono hs
   try replace hb1:=hb1.mono hs
   clear hs hm;refine S.region rfl<|O.op (.p rfl) (.fieldAddr fld102x0 rfl)<|O.op (.p rfl) (.loadAt flat9 rfl hb1 rfl) ?_;refine O.op (.p rfl) (.lenS rfl underlying9 rfl)<|O.op (.p rfl) (.lss rfl rfl)<|O.sF 12 rfl (by exact decide_eq_false (by rw [hz0];omega)) ?_;refine O.q 1 rfl<|O.op (.g rfl rfl) (.fieldAddr fld102x0 rfl)<|O.op (.g rfl rfl) (.loadAt flat9 rfl hb1 rfl) ?_;refine O.op (.g rfl rfl) (.lenS rfl underlying9 rfl)<|O.op (.g rfl rfl) (.gtr rfl rfl)<|O.sF 17 rfl (by exact decide_eq_false (by rw [hz0];omega)) ?_;refine O.q 2 rfl<|O.op (.g rfl rfl) (.loadAgg isAgg191 zC rfl hb3) ?_;refine O.call0 (.g rfl rfl) rfl zC rfl rfl ((r7dot_c (rDot x) rfl)) ?_;rintro _ _ ⟨rfl,rfl⟩
   try simp only [zx1,zx2,zx3]
   refine O.sT 21 rfl (by exact c2) ?_;refine O.op (.g rfl rfl) (.not rfl)<|O.q 2 rfl<|O.op (.g rfl rfl) (.fieldAddr fld102x3 rfl)<|O.op (.g rfl rfl) (.loadAt flat100 rfl (hb1.drop 3) rfl) ?_;refine O.call0 (.g rfl rfl) rfl zC rfl rfl ((r7right_c k3)) ?_;rintro _ _ ⟨rfl,rfl⟩
   try simp only [zx1,zx2,zx3]
   refine O.sT 27 rfl (by exact c3) ?_;refine O.op (.g rfl rfl) (.not rfl)<|O.q 2 rfl<|O.op (.g rfl rfl) (.fieldAddr fld102x3 rfl)<|O.op (.g rfl rfl) (.loadAt flat100 rfl (hb1.drop 3) rfl) ?_;refine O.op (.g rfl rfl) (.loadAgg isAgg191 zC rfl hb3) ?_;refine O.call0 (.g rfl rfl) rfl zC rfl rfl ((r7has_c (rDot x) rfl k3)) ?_;rintro _ _ ⟨rfl,rfl⟩
   try simp only [zx1,zx2,zx3]
   refine O.sF 34 rfl (by exact c4) ?_;refine O.q 1 rfl<|O.nil<|S.condF rfl<|S.skip<|S.seq<|S.region rfl<|O.op (.p rfl) (.fieldAddr fld102x5 rfl)<|O.op (.p rfl) (.loadAt flat24 rfl (hb1.drop 5) rfl) ?_;refine O.op (.p rfl) (.len rfl underlying24 rfl)<|O.op (.p rfl) (.leq rfl rfl)<|O.sT 39 rfl (by exact decide_eq_true zB) ?_;refine O.q 1 rfl<|O.op (.g rfl rfl) (.fieldAddr fld102x4 rfl)<|O.op (.g rfl rfl) (.loadAt flat4 rfl (hb1.drop 4) rfl) ?_;refine O.sT 42 rfl (by exact g4) ?_;refine O.op (.g rfl rfl) (.not rfl)<|O.q 1 rfl<|O.op (.g rfl rfl) (.fieldAddr fld102x5 rfl)<|O.op (.g rfl rfl) (.loadAt flat24 rfl (hb1.drop 5) rfl) ?_;refine O.op (.g rfl rfl) (.len rfl underlying24 rfl)<|O.op (.g rfl rfl) (.eql rfl rfl)<|O.sF 48 rfl (by exact decide_eq_false zB) ?_;refine O.q 3 rfl<|O.nil ?_;exact S.rt results299 rfl hR ⟨by rw [hs],rfl⟩
theorem r8right_c {r:Fr} {cs:List Value} {x:RecT} (h:RecRp.rel r cs x):Con prog 298 #[.agg cs.toArray] r [] (Ret fun v η=>v=.bool (recOk x)∧η=[]):=by
 obtain ⟨xa3,xa5,xa6,xc3,xc5,xc6,rfl,k0,k1,k2,k3,k5,k6⟩:=RecRp.sh h;have hz0:=str_size x.1;refine Con.of (n:=11) _ rfl func298 rfl rfl rfl fun g hg R hR=>?_;have h:=h.mono hg;have k3:=k3.mono hg;have k5:=k5.mono hg;have k6:=k6.mono hg;refine S.seq<|S.region rfl<|O.opE (.p rfl) (.box (cs:=[_,_,_,_,_,_,_]) rfl rfl) ?_;rintro _ _ ⟨b1,rfl,rfl⟩;refine O.q 1 rfl<|O.nil<|S.seq<|S.frzO zD fun g hs hm hb1=>?_;replace hg:=Fr.sub_trans hg hs;replace hR:=melted hR hm
 try replace h:=h.mono hs
 try replace k3:=k3.mono hs
 try replace k5:=k5.mono hs
 try replace k6:=k6.mono hs
 clear hs hm
 cases e:shaped x with
 |false =>
  refine S.region rfl<|O.op (.p rfl) (.loadAgg isAgg102 zC rfl hb1) ?_;refine O.call0 (.p rfl) rfl zC rfl rfl ((r8shape_c h)) ?_;rintro _ _ ⟨rfl,rfl⟩
  try simp only [zx1,zx2,zx3]
  refine O.sF 4 rfl (by exact e) ?_;refine O.q 7 rfl<|O.nil ?_;exact S.rt results298 rfl hR ⟨by simp [recOk,e],rfl⟩
 |true =>
  refine S.region rfl<|O.op (.p rfl) (.loadAgg isAgg102 zC rfl hb1) ?_;refine O.call0 (.p rfl) rfl zC rfl rfl ((r8shape_c h)) ?_;rintro _ _ ⟨rfl,rfl⟩
  try simp only [zx1,zx2,zx3]
  refine O.sT 4 rfl (by exact e) ?_;refine O.q 1 rfl<|O.op (.g rfl rfl) (.fieldAddr fld102x6 rfl)<|O.op (.g rfl rfl) (.loadAt flat24 rfl (hb1.drop 6) rfl) ?_;refine O.op (.g rfl rfl) (.len rfl underlying24 rfl)<|O.op (.g rfl rfl) (.eql rfl rfl)<|O.q 2 rfl<|O.nil ?_;exact S.rt results298 rfl hR ⟨congrArg _ (by rw [recOk,e,Bool.true_and];exact decide_eq_decide.2 zB),rfl⟩
theorem r8over_c {r:Fr} {cs ds:List Value} {x y:RecT} (h:RecRp.rel r cs x) (h' :RecRp.rel r ds y):Con prog 231 #[.agg cs.toArray,.agg ds.toArray] r [] (Ret fun v η=>v=.bool (over x y)∧η=[]):=by
 obtain ⟨xa3,xa5,xa6,xc3,xc5,xc6,rfl,k0,k1,k2,k3,k5,k6⟩:=RecRp.sh h;obtain ⟨ya3,ya5,ya6,yc3,yc5,yc6,rfl,j0,j1,j2,j3,j5,j6⟩:=RecRp.sh h';refine Con.of (n:=28) _ rfl func231 rfl rfl rfl fun g hg R hR=>?_;have h:=h.mono hg;have h' :=h'.mono hg;have k3:=k3.mono hg;refine S.seq<|S.region rfl<|O.opE (.p rfl) (.box (cs:=[_,_,_,_,_,_,_]) rfl rfl) ?_;rintro _ _ ⟨b2,rfl,rfl⟩;refine O.opE (.p rfl) (.box (cs:=[_,_,_,_,_,_,_]) rfl rfl) ?_;rintro _ _ ⟨b3,rfl,rfl⟩;refine O.q 1 rfl<|O.nil (S.seq ?_)
 cases e1:shaped x with
 |false =>
  refine S.region rfl<|O.op (.p rfl) (.loA (news:=[_,_,_,_,_,_,_]) isAgg102) ?_;refine O.call0 (.p rfl) rfl zC rfl rfl ((r8shape_c h)) ?_;rintro _ _ ⟨rfl,rfl⟩
  try simp only [zx1,zx2,zx3]
  refine O.sF 6 rfl (by exact e1) ?_;refine O.q 22 rfl<|O.nil ?_;exact S.rt results231 rfl hR ⟨by simp [over,e1],rfl⟩
 |true =>
  cases e2:shaped y with
  |false =>
   refine S.region rfl<|O.op (.p rfl) (.loA (news:=[_,_,_,_,_,_,_]) isAgg102) ?_;refine O.call0 (.p rfl) rfl zC rfl rfl ((r8shape_c h)) ?_;rintro _ _ ⟨rfl,rfl⟩
   try simp only [zx1,zx2,zx3]
   refine O.sT 6 rfl (by exact e1) ?_;refine O.q 1 rfl<|O.op (.g rfl rfl) (.loA (news:=[_,_,_,_,_,_,_]) isAgg102) ?_;refine O.call0 (.g rfl rfl) rfl zC rfl rfl ((r8shape_c h')) ?_;rintro _ _ ⟨rfl,rfl⟩
   try simp only [zx1,zx2,zx3]
   refine O.sF 9 rfl (by exact e2) ?_;refine O.q 19 rfl<|O.nil ?_;exact S.rt results231 rfl hR ⟨by simp [over,e2],rfl⟩
  |true =>
   by_cases e3:x.1=y.1
   ·
    refine S.region rfl<|O.op (.p rfl) (.loA (news:=[_,_,_,_,_,_,_]) isAgg102) ?_;refine O.call0 (.p rfl) rfl zC rfl rfl ((r8shape_c h)) ?_;rintro _ _ ⟨rfl,rfl⟩
    try simp only [zx1,zx2,zx3]
    refine O.sT 6 rfl (by exact e1) ?_;refine O.q 1 rfl<|O.op (.g rfl rfl) (.loA (news:=[_,_,_,_,_,_,_]) isAgg102) ?_;refine O.call0 (.g rfl rfl) rfl zC rfl rfl ((r8shape_c h')) ?_;rintro _ _ ⟨rfl,rfl⟩
    try simp only [zx1,zx2,zx3]
    refine O.sT 9 rfl (by exact e2) ?_;refine O.q 2 rfl<|O.op (.g rfl rfl) (.fieldObj fld102x0 rfl)<|O.op (.g rfl rfl) (.lo flat9) ?_;refine O.op (.g rfl rfl) (.fieldObj fld102x0 rfl)<|O.op (.g rfl rfl) (.lo flat9) ?_;refine O.op (.g rfl rfl) (.eqlS rfl rfl)<|O.sT 16 rfl (by simp [e3]) ?_;refine O.q 2 rfl<|O.op (.g rfl rfl) (.fieldObj fld102x3 rfl)<|O.op (.g rfl rfl) (.lo flat100) ?_;refine O.op (.g rfl rfl) (.fieldObj fld102x1 rfl)<|O.op (.g rfl rfl) (.lo flat3) ?_;refine O.op (.g rfl rfl) (.fieldObj fld102x2 rfl)<|O.op (.g rfl rfl) (.lo flat3) ?_;refine O.op (.g rfl rfl) (.build (cs:=[_,_]) underlying191 rfl rfl rfl rfl rfl)<|O.call0 (.g rfl rfl) rfl zC rfl rfl ((r7has_c (rDot y) rfl k3)) ?_;rintro _ _ ⟨rfl,rfl⟩
    try simp only [zx1,zx2,zx3]
    refine O.q 2 rfl<|O.nil ?_;exact S.rt results231 rfl hR ⟨by simp [over,e1,e2,e3],rfl⟩
   ·
    refine S.region rfl<|O.op (.p rfl) (.loA (news:=[_,_,_,_,_,_,_]) isAgg102) ?_;refine O.call0 (.p rfl) rfl zC rfl rfl ((r8shape_c h)) ?_;rintro _ _ ⟨rfl,rfl⟩
    try simp only [zx1,zx2,zx3]
    refine O.sT 6 rfl (by exact e1) ?_;refine O.q 1 rfl<|O.op (.g rfl rfl) (.loA (news:=[_,_,_,_,_,_,_]) isAgg102) ?_;refine O.call0 (.g rfl rfl) rfl zC rfl rfl ((r8shape_c h')) ?_;rintro _ _ ⟨rfl,rfl⟩
    try simp only [zx1,zx2,zx3]
    refine O.sT 9 rfl (by exact e2) ?_;refine O.q 2 rfl<|O.op (.g rfl rfl) (.fieldObj fld102x0 rfl)<|O.op (.g rfl rfl) (.lo flat9) ?_;refine O.op (.g rfl rfl) (.fieldObj fld102x0 rfl)<|O.op (.g rfl rfl) (.lo flat9) ?_;refine O.op (.g rfl rfl) (.eqlS rfl rfl)<|O.sF 16 rfl (by simp [e3]) ?_;refine O.q 12 rfl<|O.nil ?_;exact S.rt results231 rfl hR ⟨by simp [over,e3],rfl⟩
end Go.Proofs.YtojafegjlahajaaGreatDoor
