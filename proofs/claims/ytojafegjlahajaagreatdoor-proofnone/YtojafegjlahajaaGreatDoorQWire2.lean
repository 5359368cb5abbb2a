/- Texts of this proof. -/
import Derived.Test.YtojafegjlahajaaGreatDoorQShard3
import Derived.Test.YtojafegjlahajaaGreatDoorQSpTreeW
import Derived.Test.YtojafegjlahajaaGreatDoorQProof1
open Go Go.Sp Go.Proofs.Tryz
set_option maxRecDepth 100000
set_option maxHeartbeats 1000000
attribute [local irreducible] obj Own OwnP
namespace Go.Proofs.YtojafegjlahajaaGreatDoor
theorem bits_c {r:Fr} {b:Nat}:Con prog 102 #[.pointer (some ⟨b,0,none⟩),.int .i64 2] r [] (Ret fun v η=>∃ bf bp,v=.func (.func 165) #[] #[.pointer (some ⟨bf,0,none⟩),.pointer (some ⟨bp,0,none⟩)]∧η=[obj bf 3 [.int .i64 2],obj bp 234 [.pointer (some ⟨b,0,none⟩)]]):=by
 refine Con.of (n:=6) _ rfl func102 rfl rfl rfl fun g hg R hR=>?_;refine S.seq<|S.region rfl<|O.opE (.p rfl) (.box (cs:=[_]) rfl rfl) ?_;rintro _ _ ⟨b2,rfl,rfl⟩;refine O.opE (.p rfl) (.box (cs:=[_]) rfl rfl) ?_;rintro _ _ ⟨b3,rfl,rfl⟩;refine O.q 1 rfl<|O.nil<|S.seq<|S.region rfl<|O.op (.p rfl) (.mkFunc rfl rfl)<|O.q 1 rfl<|O.nil ?_;exact S.rt results102 rfl hR ⟨_,_,rfl,rfl⟩
theorem bString_c {r:Fr} {b:Nat} {xs:List UInt8} (h0:0<xs.length):Con prog 104 #[.pointer (some ⟨b,0,none⟩)] r [BuildP 142 5 b xs] (Ret fun v η=>v=.string (str xs)∧η=[]):=by
 refine Con.of (n:=14) _ rfl func104 rfl rfl rfl fun g hg R hR=>?_;refine S.open (bs:=fun x:BuildO b=>[obj b 142 [.pointer x.p,x.v],OwnP Rp.u8 5 x.v xs]) .here (fun m h=>BuildP.opn h) fun ⟨p,v,_⟩=>?_;simp only [List.cons_append,List.nil_append];refine S.factS (.there .here) (fun _ x=>x.shape) fun ⟨a,c,hv⟩=>?_;subst hv;refine S.factS (.there .here) (fun _ x=>x.solid zC) fun ⟨⟨b',hb⟩,_,hc1,hc2⟩=>?_;subst hb;refine S.frz (A:=obj b 142 [.pointer p,.slice (some ⟨b',0,none⟩) xs.length c]) zB fun g hs hm ⟨_,x',s'⟩=>?_;have ho:=(fun s x=>(obj_at x).mono s) s' x';clear x' s';replace hg:=Fr.sub_trans hg hs;replace hR:=melted hR hm;clear hs hm;refine S.seq<|S.region rfl<|O.q 1 rfl<|O.nil<|S.seq<|S.regionD (L:=[0,1,2,3,5,6,7,8,9,4,10,11]) mixedF zD<|OD.q 1 rfl<|.quiet (.p rfl) rfl (fun _=>.nilCheck rfl)<|.quiet (.p rfl) rfl (fun _=>.fieldAddr fld142x1 rfl)<|.quiet (.p rfl) rfl (fun _=>.loadAt flat24 rfl (ho.drop 1) rfl) ?_;refine OD.q 1 rfl<|.quiet (.p rfl) rfl (fun _=>.nilCheck rfl)<|.quiet (.p rfl) rfl (fun _=>.fieldAddr fld142x1 rfl)<|.quiet (.p rfl) rfl (fun _=>.loadAt flat24 rfl (ho.drop 1) rfl) ?_;refine .quiet (.p rfl) rfl (fun _=>.len rfl underlying24 rfl)<|.quiet (.p rfl) rfl (fun _=>.sliceData rfl zC)<|OD.unsafeStr (xs:=xs) (.p rfl) zD underlying239 zD rfl ⟨b',_,_,rfl,rfl⟩ rfl zB rfl zC ?_;refine OD.q 1 rfl<|ODx.nil ?_
 exact S.rt results104 rfl hR ⟨rfl,rfl⟩
theorem shBits_c {r:Fr} {s:List UInt8} (hH:At r ⟨0,0,none⟩ (w64s shaH)) (hK:At r ⟨1,0,none⟩ (w64s shaK)) (hs:s.length≤10000000000) :
  Con prog 37 #[.string (str s)] r [] (Ret fun v η=>v=.string (str (wayOf s))∧η=[]):=by
 have h64:=keyDig_len s;refine Con.of (n:=15) _ rfl func37 rfl rfl rfl fun g hg R hR=>?_;have hH:=hH.mono hg;have hK:=hK.mono hg;refine S.seq<|S.region rfl<|O.q 1 rfl<|O.nil<|S.seq<|S.region rfl<|O.opE (.p rfl) (.alloc (cs:=[.pointer none,.slice none 0 0]) zeroValue142 rfl) ?_;rintro _ _ ⟨b3,rfl,rfl⟩;refine O.nil<|S.seq<|S.seq<|S.region rfl<|O.q 1 rfl<|O.call0 (.p rfl) rfl zD rfl rfl ((sof_c hH hK zC)) ?_;rintro _ _ ⟨b6,rfl,rfl⟩
 try simp only [zx1,zx2,zx3]
 refine O.op (.p rfl) (.nilCheck rfl)<|O.op (.p rfl) (.fieldAddr fld151x0 rfl)<|O.call0 (.p rfl) rfl zD rfl rfl ((bits_c)) ?_;rintro _ _ ⟨bf,bp,rfl,rfl⟩
 try simp only [zx1,zx2,zx3]
 refine O.nil<|S.addNil (T:=Rp.u8) (e:=5) ?_;refine S.foldS (A:=BuildP 142 5 b3 []) (bs:=[obj b3 142 [.pointer none,.slice none 0 0],OwnP Rp.u8 5 (.slice none 0 0) []]) zJ (fun m h=>BuildP.fold (.inl rfl) h) ?_;refine S.frz (A:=obj b6 151 ((keyDig s).map byteV)) zB fun g hs hm ⟨_,x',s'⟩=>?_;have hd:=(fun s x=>(obj_at x).mono s) s' x';clear x' s';replace hg:=Fr.sub_trans hg hs;replace hR:=melted hR hm
 try replace hH:=hH.mono hs
 try replace hK:=hK.mono hs
 clear hs hm;refine S.frz (A:=obj bf 3 [.int .i64 2]) zB fun g hs hm ⟨_,x',s'⟩=>?_;have hf:=(fun s x=>(obj_at x).mono s) s' x';clear x' s';replace hg:=Fr.sub_trans hg hs;replace hR:=melted hR hm
 try replace hH:=hH.mono hs
 try replace hK:=hK.mono hs
 try replace hd:=hd.mono hs
 clear hs hm;refine S.frz (A:=obj bp 234 [.pointer (some ⟨b6,0,none⟩)]) zB fun g hs hm ⟨_,x',s'⟩=>?_;have hp:=(fun s x=>(obj_at x).mono s) s' x';clear x' s';replace hg:=Fr.sub_trans hg hs;replace hR:=melted hR hm
 try replace hH:=hH.mono hs
 try replace hK:=hK.mono hs
 try replace hd:=hd.mono hs
 try replace hf:=hf.mono hs
 clear hs hm;refine S.block<|S.rangeAny (psl:=[10]) (β:=UInt8) (χ:=Unit) (τ:=Unit) (vs:=fun y _=>[byteV y]) (own:=fun _ _=>[]) (θ:=[]) (θ' :=[]) (fun dn=>∃ k,k<510∧dn=bitsL (keyDig s) (k+1)) (fun ys=>ys=bitsL (keyDig s) 510) (fun dn _=>[BuildP 142 5 b3 (dn.map (48+·))]) () rfl zD rfl (fun _ _=>rfl) zD (fun l J hy=>Con.mono (bits1_c hf hp hd h64 (fun dn y hok=>hy dn y () hok)) (Ret.imp fun _ _ h=>⟨_,rfl,h⟩)) zJ (fun l D0 fid tm done y e t hpre g hgr R hR=>?_) (fun D0 t ys hfin=>?_)
 ·simp only [under,List.cons_append,List.nil_append]
  replace hg:=Fr.sub_trans hg hgr
  try replace hH:=hH.mono hgr
  try replace hK:=hK.mono hgr
  try replace hd:=hd.mono hgr
  try replace hf:=hf.mono hgr
  try replace hp:=hp.mono hgr
  try replace hd:=hd.mono hgr
  try replace hf:=hf.mono hgr
  try replace hp:=hp.mono hgr
  obtain ⟨kk,hkk,hdn⟩:=hpre;have hln:(done++[y]).length=kk+1:=by rw [hdn];simp [bitsL]
  rw [List.length_append,List.length_singleton] at hln;refine S.region rfl<|O.q 1 rfl<|O.nil<|S.beginRound zB rfl<|S.block<|S.region rfl<|O.q 1 rfl<|O.opE (.p rfl) (.litP (T:=Rp.u8) (ys:=[y]) underlying24 elem5 zF rfl rfl ⟨rfl,trivial⟩ zF) ?_;rintro _ _ ⟨a12,c12,rfl,rfl⟩;refine O.callSs (.p rfl) rfl zD rfl rfl (bs:=[BuildP 142 5 b3 (done.map (48+·)),OwnP Rp.u8 5 (.slice a12 1 c12) [y]]) zJ (Con.lentD (η:=[BuildP 142 5 b3 (done.map (48+·))]) (bs:=[OwnP Rp.u8 5 (.slice a12 1 c12) [y]]) (fun m hm hd=>sign_c ((Sat.arr hm).mono (Fr.sub_add_right hd)) zK)) ?_;rintro _ _ ⟨rfl,rfl⟩
  try simp only [zx1,zx2,zx3]
  refine O.nil<|S.inBlock<|S.roundEnd zB fun w hw=>hR () w ?_;rw [List.map_append];exact hw.picks zQ
 ·simp only [zx1,zx2,zx3]
  subst hfin;rw [bitsL_way];refine S.inBlock<|S.seq<|S.region rfl<|O.callS (.p rfl) rfl zD rfl rfl zB (bString_c (by rw [wayOf_len];decide)) ?_;rintro _ _ ⟨rfl,rfl⟩
  try simp only [zx1,zx2,zx3]
  refine O.q 1 rfl<|O.nil<|S.retM1 (.inr ⟨_,rfl⟩) (.cons zB .nil) results37 (.tmp rfl) fun w hw=>?_;exact Holds.end_ hR hw ⟨_,⟨rfl,rfl⟩,by repeat (first|exact zpa|exact zpn|(apply zpc;focus (repeat (first|exact zh|apply zt)))|apply zps)⟩
theorem owned_one {α:Type} {T:Rp α} {e:TypeId} {v:Value} {xs:List α} {m:Fr} (h:Sat [OwnP T e v xs] m):Arr T m v xs:=by
 obtain ⟨m1,_,_,s1,_,o,_⟩:=h;exact (OwnP.arr o).mono s1
theorem each_arr {α:Type} {T:Rp α} {e:TypeId} {vs:List Value} {xs:List (List α)} {m k:Fr} (s:m.sub k) (x:EachP (OwnP T e) vs xs m):All2 (Arr T k) vs xs:=EachP.all2 (R:=fun v a=>Arr T k v a) (fun _ _ _ z w=>Arr.mono w (OwnP.arr z)) x s
theorem each_two {β α:Type} {A:β→α→SProp} {bs:List β} {ys:List α} {b1 b2:β} {a1 a2:α} {m:Fr} (st:Sat [EachP A bs ys,A b1 a1,A b2 a2] m):EachP A (bs++[b1,b2]) (ys++[a1,a2]) m:=by
 obtain ⟨h1,h2,d,s1,s2,x,y⟩:=st;exact EachP.app ⟨h1,h2,d,s1,s2,x,h2,Fr.emp,Fr.disj_symm (Fr.emp_disj _),Fr.sub_refl _,Fr.emp_sub _,EachP.of_sat (A:=A) (bs:=[b1,b2]) rfl y,trivial⟩
theorem nodeTag_val {k:UInt8} (h:k.toNat<5):byteV ([0,0,1,2,3]:List UInt8)[k.toNat]=byteV (nodeTag k):=by
 unfold nodeTag;rw [List.getD_eq_getElem?_getD,List.getElem?_eq_getElem (show k.toNat<([0,0,1,2,3]:List UInt8).length from h)]
 rfl
theorem nodeSum_c {r:Fr} {cs:List Value} {x:NodeT} (h:NodeRp.rel r cs x) (hx0:x.2.1.length≤1000000000000∧x.2.2.1.length≤1000000000000) (hx2:x.2.2.2.1.length≤10000000∧∀ y∈x.2.2.2.1,y.2.1.length≤10000000) (hH:At r ⟨0,0,none⟩ (w64s shaH)) (hK:At r ⟨1,0,none⟩ (w64s shaK)) :
  Con prog 22 #[.agg cs.toArray] r [] (Ret fun v η=>∃ a c,v=.slice a (nodeSumP x).length c∧η=[OwnP Rp.u8 5 (.slice a (nodeSumP x).length c) (nodeSumP x)]):=by
 have h0:=h;obtain ⟨a1,a2,a3,c1,c2,c3,rfl,k1,k2,k3⟩:=NodeRp.sh h;refine Con.of (n:=40) _ rfl func22 rfl rfl rfl fun g hg R hR=>?_;have h:=h.mono hg;have h0:=h0.mono hg;have k1:=k1.mono hg;have k2:=k2.mono hg;have k3:=k3.mono hg;have hH:=hH.mono hg;have hK:=hK.mono hg;have hb:=k3.bound;refine S.seq<|S.region rfl<|O.opE (.p rfl) (.box (cs:=[_,_,_,_]) rfl rfl) ?_;rintro _ _ ⟨b1,rfl,rfl⟩;refine O.q 1 rfl<|O.nil<|S.seq<|S.seq<|S.objIs (b:=b1) (cs' :=[byteV x.1,.slice a1 x.2.1.length c1,.slice a2 x.2.2.1.length c2,.slice a3 x.2.2.2.1.length c3]) zB rfl ?_;refine S.frzO zB fun g hs hm h1=>?_;replace hg:=Fr.sub_trans hg hs;replace hR:=melted hR hm
 try replace h:=h.mono hs
 try replace h0:=h0.mono hs
 try replace k1:=k1.mono hs
 try replace k2:=k2.mono hs
 try replace k3:=k3.mono hs
 try replace hH:=hH.mono hs
 try replace hK:=hK.mono hs
 clear hs hm
 by_cases e:nodeOk x
 ·have hkd:=node_kind e
  have hkeys:∀ y∈x.2.2.2.1,y.1.length≤64:=fun y hy=>(e.1.1 y hy).1.2;have h64:x.2.1.length≤64∧x.2.2.1.length≤64:=by rcases e.2 with q|q|q|q;rw [q.2.1,q.2.2.1];decide;rw [q.2.1,q.2.2.1];decide;omega;rw [q.2.1,q.2.2.1];decide
  refine S.region rfl<|O.op (.p rfl) (.loadAgg isAgg27 zD rfl h1) ?_;refine O.call0 (.p rfl) rfl zD rfl rfl ((mright_c h0 hx0 (fun y hy=>by have:=hx2.2 y hy;omega))) ?_;rintro _ _ ⟨rfl,rfl⟩
  try simp only [zx1,zx2,zx3]
  refine O.sT 7 rfl (by exact decide_eq_true e) ?_;refine O.op (.p rfl) (.not rfl)<|O.nil<|S.condF rfl<|S.skip<|S.seq<|S.regionD (L:=[1,2,6,7,8,9,0,3,4,5,10,11]) mixedF zD ?_;refine .quiet (.p rfl) rfl (fun _=>.fieldAddr fld27x0 rfl)<|.quiet (.p rfl) rfl (fun _=>.loadAt flat23 rfl h1 rfl) ?_;refine .quiet (.p rfl) rfl (fun _=>.fieldAddr fld27x1 rfl)<|.quiet (.p rfl) rfl (fun _=>.loadAt flat24 rfl (h1.drop 1) rfl) ?_;refine .quiet (.p rfl) rfl (fun _=>.fieldAddr fld27x2 rfl)<|.quiet (.p rfl) rfl (fun _=>.loadAt flat24 rfl (h1.drop 2) rfl) ?_;refine OD.litP (T:=Rp.u8) (ys:=[0,0,1,2,3]) (.p rfl) zD underlying24 elem5 zF rfl rfl ⟨rfl,rfl,rfl,rfl,rfl,trivial⟩ zF (fun a9 c9=>?_);refine OD.idxOwn (T:=Rp.u8) (e:=5) (v:=.slice a9 5 c9) (xs:=[0,0,1,2,3]) (j:=x.1.toNat) (.p rfl) zD underlying24 size5 rfl rfl rfl zB hkd (fun p12 hp12=>?_);refine OD.loadL (.p rfl) zD (fun _=>.loadOwn (T:=Rp.u8) (xs:=[0,0,1,2,3]) (j:=x.1.toNat) flat5 rfl hp12 rfl zB hkd (by rintro _ rfl;exact congrArg (fun v=>[v]) (nodeTag_val hkd))) ?_;refine OD.litP (.p rfl) zD (T:=Rp.u8) (ys:=[nodeTag x.1]) underlying24 elem5 zF rfl rfl ⟨rfl,trivial⟩ zF (fun a14 c14=>?_)
  refine OD.litP (.p rfl) zD (T:=Rp.val) (ys:=[.slice a14 1 c14,.slice a1 x.2.1.length c1,.slice a2 x.2.2.1.length c2]) underlying109 elem24 zF rfl rfl ⟨⟨rfl,rfl⟩,⟨rfl,rfl⟩,⟨rfl,rfl⟩,trivial⟩ zF (fun a19 c19=>?_);refine OD.q 1 rfl<|ODx.nil<|S.seq<|S.seq<|S.frz (A:=OwnP Rp.u8 5 (.slice a14 1 c14) [nodeTag x.1]) zB fun g hs hm ⟨_,x',s'⟩=>?_;have ht:=(fun s x=>Arr.mono s (OwnP.arr x)) s' x';clear x' s';replace hg:=Fr.sub_trans hg hs;replace hR:=melted hR hm
  try replace h:=h.mono hs
  try replace h0:=h0.mono hs
  try replace k1:=k1.mono hs
  try replace k2:=k2.mono hs
  try replace k3:=k3.mono hs
  try replace hH:=hH.mono hs
  try replace hK:=hK.mono hs
  try replace h1:=h1.mono hs
  clear hs hm;refine S.frz (A:=OwnP Rp.u8 5 (.slice a9 5 c9) [0,0,1,2,3]) zB fun g hs hm ⟨_,x',s'⟩=>?_;have h9:=(fun s x=>Arr.mono s (OwnP.arr x)) s' x';clear x' s';replace hg:=Fr.sub_trans hg hs;replace hR:=melted hR hm
  try replace h:=h.mono hs
  try replace h0:=h0.mono hs
  try replace k1:=k1.mono hs
  try replace k2:=k2.mono hs
  try replace k3:=k3.mono hs
  try replace hH:=hH.mono hs
  try replace hK:=hK.mono hs
  try replace h1:=h1.mono hs
  try replace ht:=ht.mono hs
  clear hs hm;refine S.foldS (A:=EachP (OwnP Rp.u8 5) [] (leafParts (x.2.2.2.1.take 0))) (bs:=[]) .nil (fun m _=>trivial) ?_;refine S.region rfl<|O.op (.p rfl) (.fieldAddr fld27x3 rfl)<|O.op (.p rfl) (.loadAt flat25 rfl (h1.drop 3) rfl) ?_;refine O.op (.p rfl) (.len rfl underlying25 rfl)<|O.q 1 rfl<|O.nil<|S.block<|S.loopK3 (ι:=Nat) (κ:=Option Addr × Nat) (υ:=List Value) (fun k s vs=>k≤x.2.2.2.1.length∧vs.length=2*k) (fun k s vs=>[(23,.int .i64 (k:Int)),(3,.slice s.1 (3+2*k) s.2)]) [(21,_),(22,_)] (fun k s vs=>[EachP (OwnP Rp.u8 5) vs (leafParts (x.2.2.2.1.take k)),OwnP Rp.val 24 (.slice s.1 (3+2*k) s.2) ([.slice a14 1 c14,.slice a1 x.2.1.length c1,.slice a2 x.2.2.1.length c2]++vs)]) (fun k s vs=>x.2.2.2.1.length - k) (0) ((a19,c19)) ([]) (by exact ⟨by omega,rfl⟩) (.cons rfl (.cons rfl (.nil))) (.cons rfl (.cons rfl (.nil))) rfl fun k s vs hx ih=>?_;have hm1:=meltRefl (g:=g);obtain ⟨hx1,hvl⟩:=hx;refine S.seq<|S.region rfl<|O.op (.p rfl) (.lss rfl rfl)<|O.nil (S.seq ?_)
  first|refine S.condD rfl (fun h24=>?_) (fun h24=>?_)|refine S.condB rfl (fun h24=>?_) (fun h24=>?_)
  ·have hk:k<x.2.2.2.1.length:=by omega
   have hset:=hx2.2 _ (List.getElem_mem hk);have hkey:=hkeys _ (List.getElem_mem hk);have hsn:=leafParts_snoc hk;refine S.skip<|S.seq<|S.block<|S.seq<|S.region rfl<|O.ia (.p rfl) underlying25 size31 rfl rfl rfl (k3) (h:=fun p25 cs25 hp25 hr25=>?_);obtain ⟨l1,m1,rfl,l2,l3⟩:=LeafRp.sh hr25;have l3:=l3;refine O.op (.p rfl) (.loadAgg isAgg31 zD rfl hp25) ?_;refine O.opE (.p rfl) (.alloc (cs:=[.string ⟨#[]⟩,.slice none 0 0]) zeroValue31 rfl) ?_;rintro _ _ ⟨b5,rfl,rfl⟩;refine O.opU rfl (.storeObj zD rfl rfl rfl rfl zB zH) ?_;refine O.nil ?_;generalize x.2.2.2.1[k]=y at *;refine S.objIs (b:=b5) (cs' :=[.string (str y.1),.slice l1 y.2.1.length m1]) zB rfl ?_;refine S.frzO zB fun g hs hm h5=>?_;replace hg:=Fr.sub_trans hg hs;replace hR:=melted hR hm
   try replace h:=h.mono hs
   try replace h0:=h0.mono hs
   try replace k1:=k1.mono hs
   try replace k2:=k2.mono hs
   try replace k3:=k3.mono hs
   try replace hH:=hH.mono hs
   try replace hK:=hK.mono hs
   try replace h1:=h1.mono hs
   try replace ht:=ht.mono hs
   try replace h9:=h9.mono hs
   try replace hp25:=hp25.mono hs
   try replace l3:=l3.mono hs
   replace hm1:=meltTrans hm1 hm;clear hs hm;refine S.regionD (L:=[0,1,2,5,6,3,4,7,8,9,10]) mixedF zD ?_;refine OD.q 1 rfl<|.quiet (.p rfl) rfl (fun _=>.fieldAddr fld31x0 rfl)<|.quiet (.p rfl) rfl (fun _=>.loadAt flat9 rfl h5 rfl) ?_;refine .quiet (.p rfl) rfl (fun _=>.fieldAddr fld31x1 rfl)<|.quiet (.p rfl) rfl (fun _=>.loadAt flat22 rfl (h5.drop 1) rfl) ?_;refine OD.strBytesO (.p rfl) zD underlying9 underlying24 underlying5 rfl (by first|assumption|omega|(simp;done)|(simp;omega)) (fun a30 c30=>?_);refine OD.callB (.p rfl) zD rfl zD rfl rfl (bs:=[OwnP Rp.u8 5 (.slice a30 y.1.length c30) y.1]) zJ (fun m hm hd=>wBytes_c ((owned_one hm).right hd) zC) ?_;rintro _ _ ⟨a31,c31,rfl,rfl⟩
   try simp only [zx1,zx2,zx3]
   refine OD.call0 (.p rfl) zD rfl zD rfl rfl ((setSum_c l3 hH hK hset)) ?_;rintro _ _ ⟨a34,c34,rfl,rfl⟩
   try simp only [zx1,zx2,zx3]
   refine OD.litP (.p rfl) zD (T:=Rp.val) (ys:=[.slice a31 (bytesOf y.1).length c31,.slice a34 (setD y.2.1).length c34]) underlying109 elem24 zF rfl rfl ⟨⟨rfl,rfl⟩,⟨rfl,rfl⟩,trivial⟩ zF (fun a35 c35=>?_);refine OD.appendO (.p rfl) zD (T:=Rp.val) underlying109 elem24 zF rfl rfl zB zB zI zI (fun a36 c36=>?_);refine OD.q 1 rfl<|ODx.nil<|S.inBlock<|S.foldS (A:=EachP (OwnP Rp.u8 5) (vs++[.slice a31 (bytesOf y.1).length c31,.slice a34 (setD y.2.1).length c34]) (leafParts (x.2.2.2.1.take (k+1)))) (bs:=[EachP (OwnP Rp.u8 5) vs (leafParts (x.2.2.2.1.take k)),OwnP Rp.u8 5 (.slice a31 (bytesOf y.1).length c31) (bytesOf y.1),OwnP Rp.u8 5 (.slice a34 (setD y.2.1).length c34) (setD y.2.1)]) zJ (fun m st=>by rw [← hsn];exact each_two st) ?_;refine S.frz (A:=OwnP Rp.u8 5 (.slice a30 y.1.length c30) y.1) zB fun g hs hm ⟨_,x',s'⟩=>?_;have hg0:=(fun s x=>Arr.mono s (OwnP.arr x)) s' x';clear x' s';replace hg:=Fr.sub_trans hg hs;replace hR:=melted hR hm
   try replace h:=h.mono hs
   try replace h0:=h0.mono hs
   try replace k1:=k1.mono hs
   try replace k2:=k2.mono hs
   try replace k3:=k3.mono hs
   try replace hH:=hH.mono hs
   try replace hK:=hK.mono hs
   try replace h1:=h1.mono hs
   try replace ht:=ht.mono hs
   try replace h9:=h9.mono hs
   try replace hp25:=hp25.mono hs
   try replace l3:=l3.mono hs
   try replace h5:=h5.mono hs
   replace hm1:=meltTrans hm1 hm;clear hs hm;refine S.ownIs (T:=Rp.val) (e:=24) (v' :=.slice a36 (3+2*(k+1)) c36) (xs' :=[.slice a14 1 c14,.slice a1 x.2.1.length c1,.slice a2 x.2.2.1.length c2]++(vs++[.slice a31 (bytesOf y.1).length c31,.slice a34 (setD y.2.1).length c34])) zB (by congr 1;simp only [List.length_cons,List.length_nil,hvl];omega) zL ?_;refine S.slot 3 (v' :=.slice a36 (3+2*(k+1)) c36) rfl (by congr 1;simp only [List.length_cons,List.length_nil,hvl];omega) ?_;refine S.region rfl<|O.op (.p rfl) (.add rfl rfl (IntWalk.i64_in _ zC))<|O.q 1 rfl<|O.nil ?_;exact S.melt hm1 (S.pw (ih (k+1) ((a36,c36)) ((vs++[.slice a31 (bytesOf y.1).length c31,.slice a34 (setD y.2.1).length c34])) (by exact ⟨by omega,by rw [List.length_append,hvl];simp only [List.length_cons,List.length_nil];omega⟩) zC))
  ·clear ih
   have hk:k=x.2.2.2.1.length:=by omega
   subst hk;rw [List.take_length];refine S.exit rfl<|S.seq<|S.frzA zB fun g hs hm hpv=>?_;replace hg:=Fr.sub_trans hg hs;replace hR:=melted hR hm
   try replace h:=h.mono hs
   try replace h0:=h0.mono hs
   try replace k1:=k1.mono hs
   try replace k2:=k2.mono hs
   try replace k3:=k3.mono hs
   try replace hH:=hH.mono hs
   try replace hK:=hK.mono hs
   try replace h1:=h1.mono hs
   try replace ht:=ht.mono hs
   try replace h9:=h9.mono hs
   replace hm1:=meltTrans hm1 hm;clear hs hm;refine S.frz (A:=EachP (OwnP Rp.u8 5) vs (leafParts x.2.2.2.1)) zB fun g hs hm ⟨_,x',s'⟩=>?_;have he:=each_arr s' x';clear x' s';replace hg:=Fr.sub_trans hg hs;replace hR:=melted hR hm
   try replace h:=h.mono hs
   try replace h0:=h0.mono hs
   try replace k1:=k1.mono hs
   try replace k2:=k2.mono hs
   try replace k3:=k3.mono hs
   try replace hH:=hH.mono hs
   try replace hK:=hK.mono hs
   try replace h1:=h1.mono hs
   try replace ht:=ht.mono hs
   try replace h9:=h9.mono hs
   try replace hpv:=hpv.mono hs
   replace hm1:=meltTrans hm1 hm;clear hs hm;have hpa:Arr (Rp.slice Rp.u8) g.h (.slice s.1 (3+2*x.2.2.2.1.length) s.2) (nodeParts x):=Arr.rows hpv ⟨ht,k1,k2,he⟩;have hsl:=leafParts_sum x.2.2.2.1 hkeys;have hfl:(nodeParts x).flatten.length≤10000000000:=by unfold nodeParts;simp only [List.flatten_append,List.flatten_cons,List.flatten_nil,List.length_append,List.length_cons,List.length_nil];omega
   refine S.region rfl<|O.q 1 rfl<|O.call0 (.p rfl) rfl zD rfl rfl ((shaSum_c hpa hH hK zC)) ?_;rintro _ _ ⟨a39,c39,rfl,rfl⟩
   try simp only [zx1,zx2,zx3]
   refine O.q 1 rfl<|O.nil ?_;have e1:=nodeSumY e;have e2:(nodeSumP x).length=64:=(nodeSum_64 x).2 e;refine S.ownIs (T:=Rp.u8) (e:=5) (v' :=.slice a39 (nodeSumP x).length c39) (xs' :=nodeSumP x) zB (by rw [e2]) e1.symm ?_;exact S.rt results22 rfl hR ⟨a39,c39,by rw [e2],rfl⟩
 ·have e1:=nodeSumN e
  refine S.region rfl<|O.op (.p rfl) (.loadAgg isAgg27 zD rfl h1) ?_;refine O.call0 (.p rfl) rfl zD rfl rfl ((mright_c h0 hx0 (fun y hy=>by have:=hx2.2 y hy;omega))) ?_;rintro _ _ ⟨rfl,rfl⟩
  try simp only [zx1,zx2,zx3]
  refine O.sF 7 rfl (by exact decide_eq_false e) ?_;refine O.op (.p rfl) (.not rfl)<|O.nil<|S.condT rfl<|S.seq<|S.region rfl<|O.q 1 rfl<|O.nil<|S.addNil (T:=Rp.u8) (e:=5) ?_;refine S.ownIs (T:=Rp.u8) (e:=5) (v' :=.slice none (nodeSumP x).length 0) (xs' :=nodeSumP x) zB (by rw [e1];rfl) e1.symm ?_;exact S.rt results22 rfl hR ⟨none,0,by rw [e1];rfl,rfl⟩
def bit01 (c:UInt8):Bool:=c.toNat ==48 ||c.toNat ==49
def bits01:List Value:=(List.range 256).map fun i=>.bool (i ==48 ||i ==49)
theorem bits01_get (c:UInt8):bits01[c.toNat]?=some (.bool (bit01 c)):=by
 have:=c.toNat_lt;simp only [bits01,bit01,List.getElem?_map];rw [List.getElem?_range zC];rfl
theorem bit01_iff {c:UInt8}:bit01 c=true↔c=48∨c=49:=by
 unfold bit01;rw [Bool.or_eq_true,beq_iff_eq,beq_iff_eq]
 constructor
 ·rintro (h|h)
  ·exact .inl (UInt8.toNat_inj.1 h)
  ·exact .inr (UInt8.toNat_inj.1 h)
 ·rintro (rfl|rfl)
  ·exact .inl rfl
  ·exact .inr rfl
theorem has01_c {r:Fr} {b:Nat} {c:UInt8} (h:At r ⟨b,0,none⟩ bits01):Con prog 312 #[.pointer (some ⟨b,0,none⟩),byteV c] r [] (Ret fun v η=>v=.bool (bit01 c)∧η=[]):=by
 have hc:=c.toNat_lt;refine Con.of (n:=10) _ rfl func312 rfl rfl rfl fun g hg R hR=>?_;have h:=h.mono hg;refine S.seq<|S.region rfl<|O.q 1 rfl<|O.nil<|S.seq<|S.region rfl<|O.q 2 rfl<|O.op (.p rfl) (.nilCheck rfl)<|O.op (.p rfl) (.idxArrA (j:=c.toNat) underlying310 size4 rfl rfl rfl zC)<|O.op (.p rfl) (.load flat4 rfl (h.at (bits01_get c))) ?_;refine O.q 1 rfl<|O.nil ?_;exact S.rt results312 rfl hR ⟨rfl,rfl⟩
theorem str_size_q (l:List UInt8):(str l).size=l.length:=by simp
theorem tail_step {s:List UInt8} {i:Nat} (hi:i<s.length) (h:∀ j (q:j<s.length),s.length - i≤j→bit01 s[j]=true) (e:bit01 (s[s.length - i - 1]'zC)=true):∀ j (q:j<s.length),s.length - (i+1)≤j→bit01 s[j]=true:=fun j q w=>by
 rcases Nat.lt_or_ge j (s.length - i) with w' |w'
 ·have:j=s.length - i - 1:=by omega
  subst this;exact e
 ·exact h j q w'
theorem trimR_c {r:Fr} {b:Nat} {s:List UInt8} (h:At r ⟨b,0,none⟩ bits01) (hl:s.length≤1000000000000):Con prog 247 #[.string (str s),.pointer (some ⟨b,0,none⟩)] r [] (Ret fun v η=>∃ k,k≤s.length∧v=.string (str (s.take k))∧(∀ j (q:j<s.length),k≤j→bit01 s[j]=true)∧(∀ q:k - 1<s.length,0<k→bit01 s[k - 1]=false)∧η=[]):=by
 have h0:=h;refine Con.of (n:=22) _ rfl func247 rfl rfl rfl fun g hg R hR=>?_;have h:=h.mono hg;refine S.seq<|S.region rfl<|O.q 1 rfl<|O.nil<|S.seq<|S.block<|S.slot 0 (v' :=.string (str (s.take (s.length - 0)))) rfl (by rw [Nat.sub_zero,List.take_length]) ?_;refine S.loopK (ι:=Nat) (fun i=>i≤s.length∧∀ j (q:j<s.length),s.length - i≤j→bit01 s[j]=true) (fun i=>[(0,.string (str (s.take (s.length - i))))]) [(1,_)] (fun i=>[]) (fun i=>s.length - i) (0) (by exact ⟨by omega,fun j q w=>by omega⟩) (.cons rfl (.nil)) (.cons rfl (.nil)) rfl fun i hx ih=>?_;have hm1:=meltRefl (g:=g);obtain ⟨hx1,hall⟩:=hx;have htl:(s.take (s.length - i)).length=s.length - i:=by rw [List.length_take];omega
 have htg:∀ q:s.length - i - 1<(s.take (s.length - i)).length,(s.take (s.length - i))[s.length - i - 1]=s[s.length - i - 1]'zC:=fun q=>List.getElem_take
 by_cases hi:i<s.length
 ·have hj:s.length - i - 1<(s.take (s.length - i)).length:=by omega
  have hsz:(str (s.take (s.length - i))).size=s.length - i:=by rw [str_size_q,htl]
  cases e:bit01 (s[s.length - i - 1]'zC) with
  |true =>
   refine S.seq<|S.seq<|S.region rfl<|O.q 1 rfl<|O.op (.p rfl) (.lenS rfl underlying9 rfl)<|O.op (.p rfl) (.gtr rfl rfl)<|O.sT 7 rfl (by exact decide_eq_true (by rw [hsz];omega)) ?_;refine O.nil<|S.condT rfl<|S.skip<|S.block<|S.seq<|S.seq<|S.region rfl<|O.q 3 rfl<|O.op (.p rfl) (.lenS rfl underlying9 rfl)<|O.op (.p rfl) (.sub rfl rfl (IntWalk.i64_in _ zC))<|O.slot 12 (v' :=.int .i64 ((s.length - i - 1:Nat):Int)) rfl (by exact congrArg (Value.int .i64) (by rw [hsz];omega)) ?_;refine O.op (.p rfl) (.indexS (j:=s.length - i - 1) underlying9 rfl rfl zT zI) ?_;refine O.slot 13 (v' :=byteV (s[s.length - i - 1]'zC)) rfl (by exact congrArg byteV (htg hj)) ?_;refine O.call0 (.p rfl) rfl zD rfl rfl ((has01_c (h0.mono hg))) ?_;rintro _ _ ⟨rfl,rfl⟩
   try simp only [zx1,zx2,zx3]
   refine O.sT 14 rfl (by exact e) ?_;refine O.op (.p rfl) (.not rfl)<|O.nil<|S.condF rfl<|S.skip<|S.region rfl<|O.q 2 rfl<|O.op (.p rfl) (.lenS rfl underlying9 rfl)<|O.op (.p rfl) (.sub rfl rfl (IntWalk.i64_in _ zC))<|O.slot 19 (v' :=.int .i64 ((s.length - i - 1:Nat):Int)) rfl (by exact congrArg (Value.int .i64) (by rw [hsz];omega)) ?_;refine O.strTo (b:=s.length - i - 1) (.p rfl) underlying9 rfl rfl (show _=(((s.length - i - 1):Nat):Int) by omega) zI ?_;refine O.q 1 rfl<|O.nil<|S.inBlock<|S.slot 0 (v' :=.string (str (s.take (s.length - (i+1))))) rfl (by rw [List.take_take,show min (s.length - i - 1) (s.length - i)=s.length - (i+1) from by omega]) ?_;exact S.wk (ih (i+1) (by exact ⟨by omega,tail_step hi hall e⟩) zC)
  |false =>
   refine S.seq<|S.seq<|S.region rfl<|O.q 1 rfl<|O.op (.p rfl) (.lenS rfl underlying9 rfl)<|O.op (.p rfl) (.gtr rfl rfl)<|O.sT 7 rfl (by exact decide_eq_true (by rw [hsz];omega)) ?_;refine O.nil<|S.condT rfl<|S.skip<|S.block<|S.seq<|S.seq<|S.region rfl<|O.q 3 rfl<|O.op (.p rfl) (.lenS rfl underlying9 rfl)<|O.op (.p rfl) (.sub rfl rfl (IntWalk.i64_in _ zC))<|O.slot 12 (v' :=.int .i64 ((s.length - i - 1:Nat):Int)) rfl (by exact congrArg (Value.int .i64) (by rw [hsz];omega)) ?_;refine O.op (.p rfl) (.indexS (j:=s.length - i - 1) underlying9 rfl rfl zT zI) ?_;refine O.slot 13 (v' :=byteV (s[s.length - i - 1]'zC)) rfl (by exact congrArg byteV (htg hj)) ?_;refine O.call0 (.p rfl) rfl zD rfl rfl ((has01_c (h0.mono hg))) ?_;rintro _ _ ⟨rfl,rfl⟩
   try simp only [zx1,zx2,zx3]
   refine O.sF 14 rfl (by exact e) ?_;refine O.op (.p rfl) (.not rfl)<|O.nil<|S.condT rfl<|S.exit rfl<|S.seq<|S.region rfl<|O.q 2 rfl<|O.nil ?_;exact S.rt results247 rfl hR ⟨s.length - i,by omega,rfl,hall,fun _ _=>e,rfl⟩
 ·have hii:i=s.length:=by omega
  have hsz:(str (s.take (s.length - i))).size=0:=by rw [hii];simp
  refine S.seq<|S.seq<|S.region rfl<|O.q 1 rfl<|O.op (.p rfl) (.lenS rfl underlying9 rfl)<|O.op (.p rfl) (.gtr rfl rfl)<|O.sF 7 rfl (by exact decide_eq_false (by rw [hsz];omega)) ?_;refine O.nil<|S.condF rfl<|S.exit rfl<|S.seq<|S.region rfl<|O.q 2 rfl<|O.nil ?_;exact S.rt results247 rfl hR ⟨s.length - i,by omega,rfl,hall,fun _ w=>by omega,rfl⟩
theorem head_step {s:List UInt8} {i:Nat} (hi:i<s.length) (h:∀ j (q:j<s.length),j<i→bit01 s[j]=true) (e:bit01 s[i]=true):∀ j (q:j<s.length),j<i+1→bit01 s[j]=true:=fun j q w=>by
 rcases Nat.lt_or_ge j i with w' |w'
 ·exact h j q w'
 ·have:j=i:=by omega
  subst this;exact e
theorem trimL_c {r:Fr} {b:Nat} {s:List UInt8} (h:At r ⟨b,0,none⟩ bits01) (hl:s.length≤1000000000000):Con prog 246 #[.string (str s),.pointer (some ⟨b,0,none⟩)] r [] (Ret fun v η=>∃ k,k≤s.length∧v=.string (str (s.drop k))∧(∀ j (q:j<s.length),j<k→bit01 s[j]=true)∧(∀ q:k<s.length,bit01 s[k]=false)∧η=[]):=by
 have h0:=h;refine Con.of (n:=16) _ rfl func246 rfl rfl rfl fun g hg R hR=>?_;have h:=h.mono hg;refine S.seq<|S.region rfl<|O.q 1 rfl<|O.nil<|S.seq<|S.block<|S.slot 0 (v' :=.string (str (s.drop 0))) rfl rfl ?_;refine S.loopK (ι:=Nat) (fun i=>i≤s.length∧∀ j (q:j<s.length),j<i→bit01 s[j]=true) (fun i=>[(0,.string (str (s.drop i)))]) [(1,_)] (fun i=>[]) (fun i=>s.length - i) (0) (by exact ⟨by omega,fun j q w=>by omega⟩) (.cons rfl (.nil)) (.cons rfl (.nil)) rfl fun i hx ih=>?_;have hm1:=meltRefl (g:=g);obtain ⟨hx1,hall⟩:=hx;have hsz:(str (s.drop i)).size=s.length - i:=by rw [str_size_q,List.length_drop]
 have hdl:(s.drop i).length=s.length - i:=List.length_drop
 by_cases hi:i<s.length
 ·have htg:(s.drop i)[0]'zC=s[i]:=by rw [List.getElem_drop];simp
  cases e:bit01 s[i] with
  |true =>
   refine S.seq<|S.seq<|S.region rfl<|O.q 1 rfl<|O.op (.p rfl) (.lenS rfl underlying9 rfl)<|O.op (.p rfl) (.gtr rfl rfl)<|O.sT 7 rfl (by exact decide_eq_true (by rw [hsz];omega)) ?_;refine O.nil<|S.condT rfl<|S.skip<|S.block<|S.seq<|S.seq<|S.region rfl<|O.q 2 rfl<|O.op (.p rfl) (.indexS (j:=0) underlying9 rfl rfl zT zI) ?_;refine O.slot 10 (v' :=byteV s[i]) rfl (by exact congrArg byteV htg) ?_;refine O.call0 (.p rfl) rfl zD rfl rfl ((has01_c (h0.mono hg))) ?_;rintro _ _ ⟨rfl,rfl⟩
   try simp only [zx1,zx2,zx3]
   refine O.sT 11 rfl (by exact e) ?_;refine O.op (.p rfl) (.not rfl)<|O.nil<|S.condF rfl<|S.skip<|S.region rfl<|O.q 1 rfl<|O.strFrom (a:=1) (.p rfl) underlying9 rfl rfl (show _=(((1):Nat):Int) by omega) zI ?_;refine O.q 1 rfl<|O.nil<|S.inBlock<|S.slot 0 (v' :=.string (str (s.drop (i+1)))) rfl (by rw [List.drop_drop]) ?_;exact S.wk (ih (i+1) (by exact ⟨by omega,head_step hi hall e⟩) zC)
  |false =>
   refine S.seq<|S.seq<|S.region rfl<|O.q 1 rfl<|O.op (.p rfl) (.lenS rfl underlying9 rfl)<|O.op (.p rfl) (.gtr rfl rfl)<|O.sT 7 rfl (by exact decide_eq_true (by rw [hsz];omega)) ?_;refine O.nil<|S.condT rfl<|S.skip<|S.block<|S.seq<|S.seq<|S.region rfl<|O.q 2 rfl<|O.op (.p rfl) (.indexS (j:=0) underlying9 rfl rfl zT zI) ?_;refine O.slot 10 (v' :=byteV s[i]) rfl (by exact congrArg byteV htg) ?_;refine O.call0 (.p rfl) rfl zD rfl rfl ((has01_c (h0.mono hg))) ?_;rintro _ _ ⟨rfl,rfl⟩
   try simp only [zx1,zx2,zx3]
   refine O.sF 11 rfl (by exact e) ?_;refine O.op (.p rfl) (.not rfl)<|O.nil<|S.condT rfl<|S.exit rfl<|S.seq<|S.region rfl<|O.q 2 rfl<|O.nil ?_;exact S.rt results246 rfl hR ⟨i,by omega,rfl,hall,fun _=>e,rfl⟩
 ·have hii:i=s.length:=by omega
  refine S.seq<|S.seq<|S.region rfl<|O.q 1 rfl<|O.op (.p rfl) (.lenS rfl underlying9 rfl)<|O.op (.p rfl) (.gtr rfl rfl)<|O.sF 7 rfl (by exact decide_eq_false (by rw [hsz];omega)) ?_;refine O.nil<|S.condF rfl<|S.exit rfl<|S.seq<|S.region rfl<|O.q 2 rfl<|O.nil ?_;exact S.rt results246 rfl hR ⟨i,by omega,rfl,hall,fun w=>by omega,rfl⟩
theorem bits01_len:bits01.length=256:=by simp [bits01]
theorem bits01_all:∀ v∈bits01,v.oneCell' =true:=fun v hv=>by
 obtain ⟨i,_,rfl⟩:=List.mem_map.1 hv;rfl
theorem mset_c {r:Fr}:Con prog 245 #[.string (str [48,49])] r [] (Ret fun v η=>v=.tuple #[.agg bits01.toArray,.bool true]∧η=[]):=by
 refine Con.of (n:=21) _ rfl func245 rfl rfl rfl fun g hg R hR=>?_
 refine S.seq<|S.region rfl<|O.opE (.p rfl) (.alloc (cs:=[.bool false,.bool false,.bool false,.bool false,.bool false,.bool false,.bool false,.bool false,.bool false,.bool false,.bool false,.bool false,.bool false,.bool false,.bool false,.bool false,.bool false,.bool false,.bool false,.bool false,.bool false,.bool false,.bool false,.bool false,.bool false,.bool false,.bool false,.bool false,.bool false,.bool false,.bool false,.bool false,.bool false,.bool false,.bool false,.bool false,.bool false,.bool false,.bool false,.bool false,.bool false,.bool false,.bool false,.bool false,.bool false,.bool false,.bool false,.bool false,.bool false,.bool false,.bool false,.bool false,.bool false,.bool false,.bool false,.bool false,.bool false,.bool false,.bool false,.bool false,.bool false,.bool false,.bool false,.bool false,.bool false,.bool false,.bool false,.bool false,.bool false,.bool false,.bool false,.bool false,.bool false,.bool false,.bool false,.bool false,.bool false,.bool false,.bool false,.bool false,.bool false,.bool false,.bool false,.bool false,.bool false,.bool false,.bool false,.bool false,.bool false,.bool false,.bool false,.bool false,.bool false,.bool false,.bool false,.bool false,.bool false,.bool false,.bool false,.bool false,.bool false,.bool false,.bool false,.bool false,.bool false,.bool false,.bool false,.bool false,.bool false,.bool false,.bool false,.bool false,.bool false,.bool false,.bool false,.bool false,.bool false,.bool false,.bool false,.bool false,.bool false,.bool false,.bool false,.bool false,.bool false,.bool false,.bool false,.bool false,.bool false,.bool false,.bool false,.bool false,.bool false,.bool false,.bool false,.bool false,.bool false,.bool false,.bool false,.bool false,.bool false,.bool false,.bool false,.bool false,.bool false,.bool false,.bool false,.bool false,.bool false,.bool false,.bool false,.bool false,.bool false,.bool false,.bool false,.bool false,.bool false,.bool false,.bool false,.bool false,.bool false,.bool false,.bool false,.bool false,.bool false,.bool false,.bool false,.bool false,.bool false,.bool false,.bool false,.bool false,.bool false,.bool false,.bool false,.bool false,.bool false,.bool false,.bool false,.bool false,.bool false,.bool false,.bool false,.bool false,.bool false,.bool false,.bool false,.bool false,.bool false,.bool false,.bool false,.bool false,.bool false,.bool false,.bool false,.bool false,.bool false,.bool false,.bool false,.bool false,.bool false,.bool false,.bool false,.bool false,.bool false,.bool false,.bool false,.bool false,.bool false,.bool false,.bool false,.bool false,.bool false,.bool false,.bool false,.bool false,.bool false,.bool false,.bool false,.bool false,.bool false,.bool false,.bool false,.bool false,.bool false,.bool false,.bool false,.bool false,.bool false,.bool false,.bool false,.bool false,.bool false,.bool false,.bool false,.bool false,.bool false,.bool false,.bool false,.bool false,.bool false,.bool false,.bool false,.bool false,.bool false,.bool false,.bool false,.bool false,.bool false,.bool false,.bool false,.bool false,.bool false,.bool false,.bool false,.bool false]) zeroValue310 rfl) ?_
 rintro _ _ ⟨b2,rfl,rfl⟩;refine O.q 1 rfl<|O.nil<|S.seq<|S.seq<|S.region rfl<|O.q 1 rfl<|O.nil<|S.block<|S.objIs (b:=b2) (cs' :=List.replicate 256 (.bool false)) zB rfl ?_;refine S.unroll<|S.seq<|S.seq<|S.region rfl<|O.q 2 rfl<|O.op (.p rfl) (.lenS rfl underlying9 rfl)<|O.op (.p rfl) (.lss rfl rfl)<|O.sT 9 rfl zG ?_;refine O.nil<|S.condT rfl<|S.skip<|S.seq<|S.block<|S.seq<|S.region rfl<|O.q 2 rfl<|O.op (.p rfl) (.indexS (j:=0) underlying9 rfl rfl zT zI) ?_;refine O.slot 14 (v' :=.int .u8 48) rfl zG ?_;refine O.q 1 rfl<|O.nil<|S.seq<|S.seq<|S.region rfl<|O.q 1 rfl<|O.op (.p rfl) (.geq rfl rfl)<|O.sF 16 rfl zG ?_;refine O.nil<|S.condF rfl<|S.skip<|S.region rfl<|O.q 1 rfl<|O.op (.p rfl) (.idxArr (j:=48) underlying310 size4 rfl rfl (show _=(((48):Nat):Int) by omega) zC)<|O.opU rfl (.store1 flat4 rfl rfl zN zB zH) ?_;refine O.nil<|S.inBlock<|S.region rfl<|O.q 1 rfl<|O.op (.p rfl) (.add rfl rfl (IntWalk.i64_in _ zC))<|O.q 1 rfl<|O.nil<|S.objIs (b:=b2) (cs' :=(List.replicate 256 (.bool false)).set 48 (.bool true)) zB rfl ?_;refine S.reloop<|S.seq<|S.seq<|S.region rfl<|O.q 2 rfl<|O.op (.p rfl) (.lenS rfl underlying9 rfl)<|O.op (.p rfl) (.lss rfl rfl)<|O.sT 9 rfl zG ?_;refine O.nil<|S.condT rfl<|S.skip<|S.seq<|S.block<|S.seq<|S.region rfl<|O.q 2 rfl<|O.op (.p rfl) (.indexS (j:=1) underlying9 rfl rfl zT zI) ?_
 refine O.slot 14 (v' :=.int .u8 49) rfl zG ?_;refine O.q 1 rfl<|O.nil<|S.seq<|S.seq<|S.region rfl<|O.q 1 rfl<|O.op (.p rfl) (.geq rfl rfl)<|O.sF 16 rfl zG ?_;refine O.nil<|S.condF rfl<|S.skip<|S.region rfl<|O.q 1 rfl<|O.op (.p rfl) (.idxArr (j:=49) underlying310 size4 rfl rfl (show _=(((49):Nat):Int) by omega) zC)<|O.opU rfl (.store1 flat4 rfl rfl zN zB zH) ?_;refine O.nil<|S.inBlock<|S.region rfl<|O.q 1 rfl<|O.op (.p rfl) (.add rfl rfl (IntWalk.i64_in _ zC))<|O.q 1 rfl<|O.nil<|S.objIs (b:=b2) (cs' :=bits01) zB rfl ?_;refine S.reloop<|S.seq<|S.seq<|S.region rfl<|O.q 2 rfl<|O.op (.p rfl) (.lenS rfl underlying9 rfl)<|O.op (.p rfl) (.lss rfl rfl)<|O.sF 9 rfl zG ?_;refine O.nil<|S.condF rfl<|S.exit rfl<|S.seq<|S.region rfl<|O.op (.p rfl) (.loadObjAgg (news:=bits01) isAgg310 (by rw [bits01_len];kernel_rfl) rfl zB (by rw [List.drop_zero,List.take_length])) ?_;refine O.opU rfl (.storeObj (news:=bits01) (by rw [bits01_len];kernel_rfl) rfl rfl zU (List.all_eq_true.2 bits01_all) zB (by rw [bits01_len];decide)) ?_;refine O.q 1 rfl<|O.nil<|S.objIs (b:=b2) (cs' :=bits01) zB (by rw [List.take_zero,List.nil_append,List.drop_eq_nil_of_le (by rw [bits01_len];decide),List.append_nil]) ?_;refine S.retCellT results245 rfl rfl zB (LoadsAs.agg isAgg310 (by rw [bits01_len];kernel_rfl)) fun w hw=>Holds.end_ hR hw ?_;exact pk ⟨rfl,rfl⟩
theorem trim_none {s:List UInt8} {k m:Nat} (hk:k≤s.length) (h1:∀ j (q:j<s.length),k≤j→bit01 s[j]=true) (h2:∀ q:k - 1<s.length,0<k→bit01 s[k - 1]=false)
  (hm:m≤(s.take k).length) (h3:∀ j (q:j<(s.take k).length),j<m→bit01 (s.take k)[j]=true) (h4:∀ q:m<(s.take k).length,bit01 (s.take k)[m]=false):(s.take k).drop m=[]↔∀ c∈s,c=48∨c=49:=by
 have hl:(s.take k).length=k:=by rw [List.length_take];omega
 constructor
 ·intro e c hc
  have hmk:m=k:=by have:=congrArg List.length e;rw [List.length_drop,hl] at this;simp at this;omega
  obtain ⟨j,q,rfl⟩:=List.mem_iff_getElem.1 hc;rw [← bit01_iff]
  rcases Nat.lt_or_ge j k with w|w
  ·have:=h3 j zC zC
   rw [List.getElem_take] at this;exact this
  ·exact h1 j q w
 ·intro w
  have h0:k=0:=Nat.eq_zero_of_not_pos fun hp=>by
   have q:k - 1<s.length:=by omega
   have:=h2 q hp;rw [bit01_iff.2 (w _ (List.getElem_mem q))] at this;cases this
  subst h0;simp
theorem trim_c {r:Fr} {s:List UInt8} (hl:s.length≤1000000000000):Con prog 163 #[.string (str s),.string (str [48,49])] r [] (Ret fun v η=>∃ t,v=.string (str t)∧(t=[]↔∀ c∈s,c=48∨c=49)∧η=[]):=by
 refine Con.of (n:=43) _ rfl func163 rfl rfl rfl fun g hg R hR=>?_
 by_cases h0:s=[]
 ·
  refine S.seq<|S.region rfl<|O.q 1 rfl<|O.nil<|S.seq<|S.seq<|S.region rfl<|O.q 1 rfl<|O.op (.p rfl) (.eqlS rfl rfl)<|O.sT 8 rfl (by simp [h0]) ?_;refine O.q 4 rfl<|O.nil<|S.condT rfl<|S.seq<|S.region rfl<|O.q 2 rfl<|O.nil ?_;exact S.rt results163 rfl hR ⟨s,rfl,⟨fun _=>by rw [h0];exact fun _ h=>(by cases h),fun _=>h0⟩,rfl⟩
 ·
  refine S.seq<|S.region rfl<|O.q 1 rfl<|O.nil<|S.seq<|S.seq<|S.region rfl<|O.q 1 rfl<|O.op (.p rfl) (.eqlS rfl rfl)<|O.sF 8 rfl (by exact decide_eq_false (fun q=>h0 (str_eqL q))) ?_;refine O.q 2 rfl<|O.op (.g rfl rfl) (.eqlS rfl rfl)<|O.sF 11 rfl zL ?_;refine O.q 1 rfl<|O.nil<|S.condF rfl<|S.skip<|S.seq<|S.seq<|S.region rfl<|O.q 1 rfl<|O.op (.p rfl) (.lenS rfl underlying9 rfl)<|O.op (.p rfl) (.eql rfl rfl)<|O.sF 16 rfl zG ?_;refine O.q 5 rfl<|O.nil<|S.condF rfl<|S.skip<|S.seq<|S.seq<|S.region rfl<|O.q 1 rfl<|O.call0 (.p rfl) rfl zD rfl rfl (mset_c) ?_;rintro _ _ ⟨rfl,rfl⟩
  try simp only [zx1,zx2,zx3]
  refine O.q 3 rfl<|O.opE (.p rfl) (.alloc (cs:=[.bool false,.bool false,.bool false,.bool false,.bool false,.bool false,.bool false,.bool false,.bool false,.bool false,.bool false,.bool false,.bool false,.bool false,.bool false,.bool false,.bool false,.bool false,.bool false,.bool false,.bool false,.bool false,.bool false,.bool false,.bool false,.bool false,.bool false,.bool false,.bool false,.bool false,.bool false,.bool false,.bool false,.bool false,.bool false,.bool false,.bool false,.bool false,.bool false,.bool false,.bool false,.bool false,.bool false,.bool false,.bool false,.bool false,.bool false,.bool false,.bool false,.bool false,.bool false,.bool false,.bool false,.bool false,.bool false,.bool false,.bool false,.bool false,.bool false,.bool false,.bool false,.bool false,.bool false,.bool false,.bool false,.bool false,.bool false,.bool false,.bool false,.bool false,.bool false,.bool false,.bool false,.bool false,.bool false,.bool false,.bool false,.bool false,.bool false,.bool false,.bool false,.bool false,.bool false,.bool false,.bool false,.bool false,.bool false,.bool false,.bool false,.bool false,.bool false,.bool false,.bool false,.bool false,.bool false,.bool false,.bool false,.bool false,.bool false,.bool false,.bool false,.bool false,.bool false,.bool false,.bool false,.bool false,.bool false,.bool false,.bool false,.bool false,.bool false,.bool false,.bool false,.bool false,.bool false,.bool false,.bool false,.bool false,.bool false,.bool false,.bool false,.bool false,.bool false,.bool false,.bool false,.bool false,.bool false,.bool false,.bool false,.bool false,.bool false,.bool false,.bool false,.bool false,.bool false,.bool false,.bool false,.bool false,.bool false,.bool false,.bool false,.bool false,.bool false,.bool false,.bool false,.bool false,.bool false,.bool false,.bool false,.bool false,.bool false,.bool false,.bool false,.bool false,.bool false,.bool false,.bool false,.bool false,.bool false,.bool false,.bool false,.bool false,.bool false,.bool false,.bool false,.bool false,.bool false,.bool false,.bool false,.bool false,.bool false,.bool false,.bool false,.bool false,.bool false,.bool false,.bool false,.bool false,.bool false,.bool false,.bool false,.bool false,.bool false,.bool false,.bool false,.bool false,.bool false,.bool false,.bool false,.bool false,.bool false,.bool false,.bool false,.bool false,.bool false,.bool false,.bool false,.bool false,.bool false,.bool false,.bool false,.bool false,.bool false,.bool false,.bool false,.bool false,.bool false,.bool false,.bool false,.bool false,.bool false,.bool false,.bool false,.bool false,.bool false,.bool false,.bool false,.bool false,.bool false,.bool false,.bool false,.bool false,.bool false,.bool false,.bool false,.bool false,.bool false,.bool false,.bool false,.bool false,.bool false,.bool false,.bool false,.bool false,.bool false,.bool false,.bool false,.bool false,.bool false,.bool false,.bool false,.bool false,.bool false,.bool false,.bool false,.bool false,.bool false,.bool false,.bool false,.bool false,.bool false,.bool false,.bool false,.bool false,.bool false,.bool false]) zeroValue310 rfl) ?_
  rintro _ _ ⟨b5,rfl,rfl⟩;refine O.opU rfl (.storeObj (news:=bits01) (by rw [bits01_len];kernel_rfl) rfl rfl zU (List.all_eq_true.2 bits01_all) zB (by rw [bits01_len];decide)) ?_;refine O.q 1 rfl<|O.nil<|S.seq<|S.objIs (b:=b5) (cs' :=bits01) zB (by rw [List.take_zero,List.nil_append,List.drop_eq_nil_of_le (by rw [bits01_len];decide),List.append_nil]) ?_;refine S.frzO zB fun g hs hm h5=>?_;replace hg:=Fr.sub_trans hg hs;replace hR:=melted hR hm;clear hs hm;refine S.region rfl<|O.q 1 rfl<|O.sT 34 rfl zG ?_;refine O.nil<|S.condT rfl<|S.seq<|S.region rfl<|O.q 1 rfl<|O.call0 (.p rfl) rfl zD rfl rfl ((trimR_c h5 hl)) ?_;rintro v36 _ ⟨k,hk,rfl,h1,h2,rfl⟩
  try simp only [zx1,zx2,zx3]
  refine O.call0 (.p rfl) rfl zD rfl rfl ((trimL_c h5 (by rw [List.length_take];omega))) ?_;rintro v37 _ ⟨m,hm,rfl,h3,h4,rfl⟩
  try simp only [zx1,zx2,zx3]
  refine O.q 1 rfl<|O.nil ?_;exact S.rt results163 rfl hR ⟨(s.take k).drop m,rfl,trim_none hk h1 h2 hm h3 h4,rfl⟩
theorem triedB_ret {g:Gr} {bt bx:Nat} {x:Value} {T' :TypeId} {w:World} {R:Ending→World→Prop} {η:List SProp} (hw:Holds w g (obj bx T' [x]::η)) (hR:∀ w,Holds w g (obj bx T' [x]::η)→R (.returned x) w) :
  CallsD prog 389 #[.pointer (some ⟨bt,0,none⟩),.pointer (some ⟨bx,0,none⟩)] .returning w (DPost g bx R):=by
 refine (callsD_rec (R:=fun e w=>(∃ v,e=.returned v)∧Holds w g (obj bx T' [x]::η)) [.pointer (some ⟨bt,0,none⟩),.pointer (some ⟨bx,0,none⟩)] rfl func389 rfl rfl rfl rfl hw ?_).mono ?_
 rotate_left
 ·rintro e u' w' ⟨rfl,⟨v,rfl⟩,h⟩
  exact ⟨⟨v,rfl⟩,rfl,T',x,η,h,hR w' h⟩
 refine S.seq<|S.region rfl<|O.q 1 rfl<|O.op (.p rfl) (.neqIN underlying20 rfl)<|O.nil<|S.condF rfl<|S.skip<|S.end0 results389 fun w hw=>?_;exact ⟨⟨_,rfl⟩,hw⟩
theorem triedB_pan {g:Gr} {bt bx b:Nat} {v x:Value} {made bad:Bool} {T' Tt:TypeId} {w:World} {R:Ending→World→Prop} {η:List SProp} (hw:Holds w g (obj bx T' [x]::obj bt Tt [.pointer (some ⟨b,0,none⟩)]::obj b 441 [v,.bool made,.bool bad]::η))
  (hR:∀ w,Holds w g (obj bx T' [.int .u8 0]::obj b 441 [v,.bool made,.bool true]::η)→R (.returned (.int .u8 0)) w) :
  CallsD prog 389 #[.pointer (some ⟨bt,0,none⟩),.pointer (some ⟨bx,0,none⟩)] (.panicking missing) w (DPost g bx R):=by
 refine (callsD_rec (R:=fun e w=>(∃ v,e=.returned v)∧Holds w g (obj bx T' [.int .u8 0]::obj b 441 [v,.bool made,.bool true]::η)) [.pointer (some ⟨bt,0,none⟩),.pointer (some ⟨bx,0,none⟩)] rfl func389 rfl rfl rfl rfl hw ?_).mono ?_
 rotate_left
 ·rintro e u' w' ⟨rfl,⟨v,rfl⟩,h⟩
  exact ⟨⟨v,rfl⟩,rfl,T',_,_,h,hR w' h⟩
 refine S.seq<|S.region rfl<|O.q 1 rfl<|O.op (.p rfl) (.neqIV underlying20 rfl)<|O.nil<|S.condT rfl<|S.seq<|S.seq<|S.region rfl<|O.q 1 rfl<|O.op (.p rfl) (.assertYes underlying459 rfl)<|O.q 3 rfl<|O.opE (.p rfl) (.alloc (cs:=[]) zeroValue459 rfl) ?_;rintro _ _ ⟨b3,rfl,rfl⟩;refine O.opU rfl (.storeObj zD rfl rfl rfl rfl zB zH) ?_;refine O.q 1 rfl<|O.nil<|S.seq<|S.region rfl<|O.q 1 rfl<|O.op (.p rfl) (.not rfl)<|O.nil<|S.condF rfl<|S.skip<|S.seq<|S.region rfl<|O.op (.p rfl) (.lo flat423) ?_;refine O.op (.p rfl) (.nilCheck rfl)<|O.op (.p rfl) (.fieldObj fld441x2 rfl)<|O.opU rfl (.store1 flat4 rfl rfl zN zB zH) ?_;refine O.nil<|S.seq<|S.region rfl<|O.q 1 rfl<|O.nil<|S.region rfl<|O.q 1 rfl<|O.opU rfl (.store1 flat5 rfl rfl zN zB zH) ?_;refine O.nil<|S.end0 results389 fun w hw=>?_;exact ⟨⟨_,rfl⟩,hw.picks zQ⟩
theorem triedB_c {r:Fr} {b f:Nat} {v:Value} {made bad:Bool} {first cap:Array Value} {K:Value→Value→List SProp→Prop} {X:Value→Prop} (hc:callable prog f=true) (hK1:∀ u v' ζ,K u v' ζ→u.oneCell' =true)
  (con:made=true→bad=false→Con prog f (first++#[]++cap) r [obj b 441 [v,.bool true,.bool false]] (RetP (fun u η=>∃ v' ζ,K u v' ζ∧η=obj b 441 [v',.bool true,.bool false]::ζ) (fun ch η=>ch=missing∧∃ v',X v' ∧η=[obj b 441 [v',.bool true,.bool false]]))) :
  Con prog 368 #[.pointer (some ⟨b,0,none⟩),.func (.func f) first cap] r [obj b 441 [v,.bool made,.bool bad]] (Ret fun u η =>
   ((made && !bad)=false∧u=.int .u8 0∧η=[obj b 441 [v,.bool made,.bool bad]])∨(made=true∧bad=false∧∃ v' ζ,K u v' ζ∧η=obj b 441 [v',.bool true,.bool false]::ζ) ∨
   (made=true∧bad=false∧∃ v',X v' ∧u=.int .u8 0∧η=[obj b 441 [v',.bool true,.bool true]])):=by
 refine Con.of (n:=12) [.pointer (some ⟨b,0,none⟩),.func (.func f) first cap] rfl func368 rfl rfl rfl fun g hg R hR=>?_;refine S.seq<|S.region rfl<|O.opE (.p rfl) (.box (cs:=[_]) rfl rfl) ?_;rintro _ _ ⟨b2,rfl,rfl⟩;refine O.opE (.p rfl) (.alloc (cs:=[.int .u8 0]) zeroValue5 rfl) ?_;rintro _ _ ⟨b4,rfl,rfl⟩;refine O.nil<|S.seq<|S.seq<|S.region rfl<|O.op (.p rfl) (.lo flat423) ?_;refine O.callS (.p rfl) rfl zD rfl rfl zB rGood_c ?_;rintro _ _ ⟨rfl,rfl⟩
 try simp only [zx1,zx2,zx3]
 refine O.op (.p rfl) ((by first|exact .notD rfl|exact .not rfl)) ?_;refine O.nil ?_
 first|refine S.condD rfl (fun h7=>?_) (fun h7=>?_)|refine S.condB rfl (fun h7=>?_) (fun h7=>?_)
 ·refine S.seq<|S.region rfl<|O.op (.p rfl) (.lo flat5) ?_
  refine O.opU rfl (.store1 flat5 rfl rfl zN zB zH) ?_;refine O.nil<|S.retCell results368 flat5 rfl zB fun w hw=>Holds.end_ hR hw ?_;exact pk (.inl ⟨by revert h7;cases made<;>cases bad<;>simp,rfl,rfl⟩)
 ·obtain ⟨rfl,rfl⟩:made=true∧bad=false:=by revert h7;cases made<;>cases bad<;>simp
  refine S.skip<|S.seq<|S.region rfl<|O.op (.p rfl) (.mkFunc rfl rfl)<|O.defer rfl rfl rfl rfl ?_;refine O.nil<|S.seq<|S.region rfl<|O.q 1 rfl<|O.callPSD (.p rfl) rfl hc rfl rfl zB ((con rfl rfl).sub hg) (fun a ch η' w hF hX hW=>by (obtain ⟨rfl,v',hX',rfl⟩:=hX;exact leavesCell results368 flat5 hF rfl zL zD (triedB_pan (hW.picks zQ) fun w hw=>Holds.end_ hR hw ⟨_,.inr (.inr ⟨rfl,rfl,v',hX',rfl,rfl⟩),by repeat (first|exact zpa|exact zpn|(apply zpc;focus (repeat (first|exact zh|apply zt)))|apply zps)⟩))) ?_;rintro v11 _ ⟨v',ζ,hK,rfl⟩
  try simp only [zx1,zx2,zx3]
  have hone:=hK1 _ _ _ hK;refine O.perm (List.Perm.cons _ List.perm_append_comm) ?_;simp only [List.cons_append,List.nil_append];refine O.opU rfl (.store1 flat5 rfl rfl zN zB zH) ?_;refine O.nil<|S.retL fun a w hf hd hw=>?_;exact leavesCell results368 flat5 hf rfl zL zD (triedB_ret hw fun w hw=>Holds.end_ hR hw ⟨_,.inr (.inl ⟨rfl,rfl,v',ζ,hK,rfl⟩),by repeat (first|exact zpa|exact zpn|(apply zpc;focus (repeat (first|exact zh|apply zt)))|apply zps)⟩)
theorem triedI_ret {g:Gr} {bt bx:Nat} {x:Value} {T' :TypeId} {w:World} {R:Ending→World→Prop} {η:List SProp} (hw:Holds w g (obj bx T' [x]::η)) (hR:∀ w,Holds w g (obj bx T' [x]::η)→R (.returned x) w) :
  CallsD prog 392 #[.pointer (some ⟨bt,0,none⟩),.pointer (some ⟨bx,0,none⟩)] .returning w (DPost g bx R):=by
 refine (callsD_rec (R:=fun e w=>(∃ v,e=.returned v)∧Holds w g (obj bx T' [x]::η)) [.pointer (some ⟨bt,0,none⟩),.pointer (some ⟨bx,0,none⟩)] rfl func392 rfl rfl rfl rfl hw ?_).mono ?_
 rotate_left
 ·rintro e u' w' ⟨rfl,⟨v,rfl⟩,h⟩
  exact ⟨⟨v,rfl⟩,rfl,T',x,η,h,hR w' h⟩
 refine S.seq<|S.region rfl<|O.q 1 rfl<|O.op (.p rfl) (.neqIN underlying20 rfl)<|O.nil<|S.condF rfl<|S.skip<|S.end0 results392 fun w hw=>?_;exact ⟨⟨_,rfl⟩,hw⟩
theorem triedI_pan {g:Gr} {bt bx b:Nat} {v x:Value} {made bad:Bool} {T' Tt:TypeId} {w:World} {R:Ending→World→Prop} {η:List SProp} (hw:Holds w g (obj bx T' [x]::obj bt Tt [.pointer (some ⟨b,0,none⟩)]::obj b 441 [v,.bool made,.bool bad]::η))
  (hR:∀ w,Holds w g (obj bx T' [.int .i64 0]::obj b 441 [v,.bool made,.bool true]::η)→R (.returned (.int .i64 0)) w) :
  CallsD prog 392 #[.pointer (some ⟨bt,0,none⟩),.pointer (some ⟨bx,0,none⟩)] (.panicking missing) w (DPost g bx R):=by
 refine (callsD_rec (R:=fun e w=>(∃ v,e=.returned v)∧Holds w g (obj bx T' [.int .i64 0]::obj b 441 [v,.bool made,.bool true]::η)) [.pointer (some ⟨bt,0,none⟩),.pointer (some ⟨bx,0,none⟩)] rfl func392 rfl rfl rfl rfl hw ?_).mono ?_
 rotate_left
 ·rintro e u' w' ⟨rfl,⟨v,rfl⟩,h⟩
  exact ⟨⟨v,rfl⟩,rfl,T',_,_,h,hR w' h⟩
 refine S.seq<|S.region rfl<|O.q 1 rfl<|O.op (.p rfl) (.neqIV underlying20 rfl)<|O.nil<|S.condT rfl<|S.seq<|S.seq<|S.region rfl<|O.q 1 rfl<|O.op (.p rfl) (.assertYes underlying459 rfl)<|O.q 3 rfl<|O.opE (.p rfl) (.alloc (cs:=[]) zeroValue459 rfl) ?_;rintro _ _ ⟨b3,rfl,rfl⟩;refine O.opU rfl (.storeObj zD rfl rfl rfl rfl zB zH) ?_;refine O.q 1 rfl<|O.nil<|S.seq<|S.region rfl<|O.q 1 rfl<|O.op (.p rfl) (.not rfl)<|O.nil<|S.condF rfl<|S.skip<|S.seq<|S.region rfl<|O.op (.p rfl) (.lo flat423) ?_;refine O.op (.p rfl) (.nilCheck rfl)<|O.op (.p rfl) (.fieldObj fld441x2 rfl)<|O.opU rfl (.store1 flat4 rfl rfl zN zB zH) ?_;refine O.nil<|S.seq<|S.region rfl<|O.q 1 rfl<|O.nil<|S.region rfl<|O.q 1 rfl<|O.opU rfl (.store1 flat3 rfl rfl zN zB zH) ?_;refine O.nil<|S.end0 results392 fun w hw=>?_;exact ⟨⟨_,rfl⟩,hw.picks zQ⟩
theorem triedI_c {r:Fr} {b f:Nat} {v:Value} {made bad:Bool} {first cap:Array Value} {K:Value→Value→List SProp→Prop} {X:Value→Prop} (hc:callable prog f=true) (hK1:∀ u v' ζ,K u v' ζ→u.oneCell' =true)
  (con:made=true→bad=false→Con prog f (first++#[]++cap) r [obj b 441 [v,.bool true,.bool false]] (RetP (fun u η=>∃ v' ζ,K u v' ζ∧η=obj b 441 [v',.bool true,.bool false]::ζ) (fun ch η=>ch=missing∧∃ v',X v' ∧η=[obj b 441 [v',.bool true,.bool false]]))) :
  Con prog 374 #[.pointer (some ⟨b,0,none⟩),.func (.func f) first cap] r [obj b 441 [v,.bool made,.bool bad]] (Ret fun u η =>
   ((made && !bad)=false∧u=.int .i64 0∧η=[obj b 441 [v,.bool made,.bool bad]])∨(made=true∧bad=false∧∃ v' ζ,K u v' ζ∧η=obj b 441 [v',.bool true,.bool false]::ζ) ∨
   (made=true∧bad=false∧∃ v',X v' ∧u=.int .i64 0∧η=[obj b 441 [v',.bool true,.bool true]])):=by
 refine Con.of (n:=12) [.pointer (some ⟨b,0,none⟩),.func (.func f) first cap] rfl func374 rfl rfl rfl fun g hg R hR=>?_;refine S.seq<|S.region rfl<|O.opE (.p rfl) (.box (cs:=[_]) rfl rfl) ?_;rintro _ _ ⟨b2,rfl,rfl⟩;refine O.opE (.p rfl) (.alloc (cs:=[.int .i64 0]) zeroValue3 rfl) ?_;rintro _ _ ⟨b4,rfl,rfl⟩;refine O.nil<|S.seq<|S.seq<|S.region rfl<|O.op (.p rfl) (.lo flat423) ?_;refine O.callS (.p rfl) rfl zD rfl rfl zB rGood_c ?_;rintro _ _ ⟨rfl,rfl⟩
 try simp only [zx1,zx2,zx3]
 refine O.op (.p rfl) ((by first|exact .notD rfl|exact .not rfl)) ?_;refine O.nil ?_
 first|refine S.condD rfl (fun h7=>?_) (fun h7=>?_)|refine S.condB rfl (fun h7=>?_) (fun h7=>?_)
 ·refine S.seq<|S.region rfl<|O.op (.p rfl) (.lo flat3) ?_
  refine O.opU rfl (.store1 flat3 rfl rfl zN zB zH) ?_;refine O.nil<|S.retCell results374 flat3 rfl zB fun w hw=>Holds.end_ hR hw ?_;exact pk (.inl ⟨by revert h7;cases made<;>cases bad<;>simp,rfl,rfl⟩)
 ·obtain ⟨rfl,rfl⟩:made=true∧bad=false:=by revert h7;cases made<;>cases bad<;>simp
  refine S.skip<|S.seq<|S.region rfl<|O.op (.p rfl) (.mkFunc rfl rfl)<|O.defer rfl rfl rfl rfl ?_;refine O.nil<|S.seq<|S.region rfl<|O.q 1 rfl<|O.callPSD (.p rfl) rfl hc rfl rfl zB ((con rfl rfl).sub hg) (fun a ch η' w hF hX hW=>by (obtain ⟨rfl,v',hX',rfl⟩:=hX;exact leavesCell results374 flat3 hF rfl zL zD (triedI_pan (hW.picks zQ) fun w hw=>Holds.end_ hR hw ⟨_,.inr (.inr ⟨rfl,rfl,v',hX',rfl,rfl⟩),by repeat (first|exact zpa|exact zpn|(apply zpc;focus (repeat (first|exact zh|apply zt)))|apply zps)⟩))) ?_;rintro v11 _ ⟨v',ζ,hK,rfl⟩
  try simp only [zx1,zx2,zx3]
  have hone:=hK1 _ _ _ hK;refine O.perm (List.Perm.cons _ List.perm_append_comm) ?_;simp only [List.cons_append,List.nil_append];refine O.opU rfl (.store1 flat3 rfl rfl zN zB zH) ?_;refine O.nil<|S.retL fun a w hf hd hw=>?_;exact leavesCell results374 flat3 hf rfl zL zD (triedI_ret hw fun w hw=>Holds.end_ hR hw ⟨_,.inr (.inl ⟨rfl,rfl,v',ζ,hK,rfl⟩),by repeat (first|exact zpa|exact zpn|(apply zpc;focus (repeat (first|exact zh|apply zt)))|apply zps)⟩)
theorem triedS_ret {g:Gr} {bt bx:Nat} {x:Value} {T' :TypeId} {w:World} {R:Ending→World→Prop} {η:List SProp} (hw:Holds w g (obj bx T' [x]::η)) (hR:∀ w,Holds w g (obj bx T' [x]::η)→R (.returned x) w) :
  CallsD prog 390 #[.pointer (some ⟨bt,0,none⟩),.pointer (some ⟨bx,0,none⟩)] .returning w (DPost g bx R):=by
 refine (callsD_rec (R:=fun e w=>(∃ v,e=.returned v)∧Holds w g (obj bx T' [x]::η)) [.pointer (some ⟨bt,0,none⟩),.pointer (some ⟨bx,0,none⟩)] rfl func390 rfl rfl rfl rfl hw ?_).mono ?_
 rotate_left
 ·rintro e u' w' ⟨rfl,⟨v,rfl⟩,h⟩
  exact ⟨⟨v,rfl⟩,rfl,T',x,η,h,hR w' h⟩
 refine S.seq<|S.region rfl<|O.q 1 rfl<|O.op (.p rfl) (.neqIN underlying20 rfl)<|O.nil<|S.condF rfl<|S.skip<|S.end0 results390 fun w hw=>?_;exact ⟨⟨_,rfl⟩,hw⟩
theorem triedS_pan {g:Gr} {bt bx b:Nat} {v x:Value} {made bad:Bool} {T' Tt:TypeId} {w:World} {R:Ending→World→Prop} {η:List SProp} (hw:Holds w g (obj bx T' [x]::obj bt Tt [.pointer (some ⟨b,0,none⟩)]::obj b 441 [v,.bool made,.bool bad]::η))
  (hR:∀ w,Holds w g (obj bx T' [.slice none 0 0]::obj b 441 [v,.bool made,.bool true]::η)→R (.returned (.slice none 0 0)) w) :
  CallsD prog 390 #[.pointer (some ⟨bt,0,none⟩),.pointer (some ⟨bx,0,none⟩)] (.panicking missing) w (DPost g bx R):=by
 refine (callsD_rec (R:=fun e w=>(∃ v,e=.returned v)∧Holds w g (obj bx T' [.slice none 0 0]::obj b 441 [v,.bool made,.bool true]::η)) [.pointer (some ⟨bt,0,none⟩),.pointer (some ⟨bx,0,none⟩)] rfl func390 rfl rfl rfl rfl hw ?_).mono ?_
 rotate_left
 ·rintro e u' w' ⟨rfl,⟨v,rfl⟩,h⟩
  exact ⟨⟨v,rfl⟩,rfl,T',_,_,h,hR w' h⟩
 refine S.seq<|S.region rfl<|O.q 1 rfl<|O.op (.p rfl) (.neqIV underlying20 rfl)<|O.nil<|S.condT rfl<|S.seq<|S.seq<|S.region rfl<|O.q 1 rfl<|O.op (.p rfl) (.assertYes underlying459 rfl)<|O.q 3 rfl<|O.opE (.p rfl) (.alloc (cs:=[]) zeroValue459 rfl) ?_;rintro _ _ ⟨b3,rfl,rfl⟩;refine O.opU rfl (.storeObj zD rfl rfl rfl rfl zB zH) ?_;refine O.q 1 rfl<|O.nil<|S.seq<|S.region rfl<|O.q 1 rfl<|O.op (.p rfl) (.not rfl)<|O.nil<|S.condF rfl<|S.skip<|S.seq<|S.region rfl<|O.op (.p rfl) (.lo flat423) ?_;refine O.op (.p rfl) (.nilCheck rfl)<|O.op (.p rfl) (.fieldObj fld441x2 rfl)<|O.opU rfl (.store1 flat4 rfl rfl zN zB zH) ?_;refine O.nil<|S.seq<|S.region rfl<|O.q 1 rfl<|O.nil<|S.region rfl<|O.q 1 rfl<|O.opU rfl (.store1 flat24 rfl rfl zN zB zH) ?_;refine O.nil<|S.end0 results390 fun w hw=>?_;exact ⟨⟨_,rfl⟩,hw.picks zQ⟩
theorem triedS_c {r:Fr} {b f:Nat} {v:Value} {made bad:Bool} {first cap:Array Value} {K:Value→Value→List SProp→Prop} {X:Value→Prop} (hc:callable prog f=true) (hK1:∀ u v' ζ,K u v' ζ→u.oneCell' =true)
  (con:made=true→bad=false→Con prog f (first++#[]++cap) r [obj b 441 [v,.bool true,.bool false]] (RetP (fun u η=>∃ v' ζ,K u v' ζ∧η=obj b 441 [v',.bool true,.bool false]::ζ) (fun ch η=>ch=missing∧∃ v',X v' ∧η=[obj b 441 [v',.bool true,.bool false]]))) :
  Con prog 370 #[.pointer (some ⟨b,0,none⟩),.func (.func f) first cap] r [obj b 441 [v,.bool made,.bool bad]] (Ret fun u η =>
   ((made && !bad)=false∧u=.slice none 0 0∧η=[obj b 441 [v,.bool made,.bool bad]])∨(made=true∧bad=false∧∃ v' ζ,K u v' ζ∧η=obj b 441 [v',.bool true,.bool false]::ζ) ∨
   (made=true∧bad=false∧∃ v',X v' ∧u=.slice none 0 0∧η=[obj b 441 [v',.bool true,.bool true]])):=by
 refine Con.of (n:=12) [.pointer (some ⟨b,0,none⟩),.func (.func f) first cap] rfl func370 rfl rfl rfl fun g hg R hR=>?_;refine S.seq<|S.region rfl<|O.opE (.p rfl) (.box (cs:=[_]) rfl rfl) ?_;rintro _ _ ⟨b2,rfl,rfl⟩;refine O.opE (.p rfl) (.alloc (cs:=[.slice none 0 0]) zeroValue24 rfl) ?_;rintro _ _ ⟨b4,rfl,rfl⟩;refine O.nil<|S.seq<|S.seq<|S.region rfl<|O.op (.p rfl) (.lo flat423) ?_;refine O.callS (.p rfl) rfl zD rfl rfl zB rGood_c ?_;rintro _ _ ⟨rfl,rfl⟩
 try simp only [zx1,zx2,zx3]
 refine O.op (.p rfl) ((by first|exact .notD rfl|exact .not rfl)) ?_;refine O.nil ?_
 first|refine S.condD rfl (fun h7=>?_) (fun h7=>?_)|refine S.condB rfl (fun h7=>?_) (fun h7=>?_)
 ·refine S.seq<|S.region rfl<|O.op (.p rfl) (.lo flat24) ?_
  refine O.opU rfl (.store1 flat24 rfl rfl zN zB zH) ?_;refine O.nil<|S.retCell results370 flat24 rfl zB fun w hw=>Holds.end_ hR hw ?_;exact pk (.inl ⟨by revert h7;cases made<;>cases bad<;>simp,rfl,rfl⟩)
 ·obtain ⟨rfl,rfl⟩:made=true∧bad=false:=by revert h7;cases made<;>cases bad<;>simp
  refine S.skip<|S.seq<|S.region rfl<|O.op (.p rfl) (.mkFunc rfl rfl)<|O.defer rfl rfl rfl rfl ?_;refine O.nil<|S.seq<|S.region rfl<|O.q 1 rfl<|O.callPSD (.p rfl) rfl hc rfl rfl zB ((con rfl rfl).sub hg) (fun a ch η' w hF hX hW=>by (obtain ⟨rfl,v',hX',rfl⟩:=hX;exact leavesCell results370 flat24 hF rfl zL zD (triedS_pan (hW.picks zQ) fun w hw=>Holds.end_ hR hw ⟨_,.inr (.inr ⟨rfl,rfl,v',hX',rfl,rfl⟩),by repeat (first|exact zpa|exact zpn|(apply zpc;focus (repeat (first|exact zh|apply zt)))|apply zps)⟩))) ?_;rintro v11 _ ⟨v',ζ,hK,rfl⟩
  try simp only [zx1,zx2,zx3]
  have hone:=hK1 _ _ _ hK;refine O.perm (List.Perm.cons _ List.perm_append_comm) ?_;simp only [List.cons_append,List.nil_append];refine O.opU rfl (.store1 flat24 rfl rfl zN zB zH) ?_;refine O.nil<|S.retL fun a w hf hd hw=>?_;exact leavesCell results370 flat24 hf rfl zL zD (triedS_ret hw fun w hw=>Holds.end_ hR hw ⟨_,.inr (.inl ⟨rfl,rfl,v',ζ,hK,rfl⟩),by repeat (first|exact zpa|exact zpn|(apply zpc;focus (repeat (first|exact zh|apply zt)))|apply zps)⟩)
end Go.Proofs.YtojafegjlahajaaGreatDoor
