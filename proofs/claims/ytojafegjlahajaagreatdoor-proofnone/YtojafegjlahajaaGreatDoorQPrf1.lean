/- Texts of this proof. -/
import Derived.Test.YtojafegjlahajaaGreatDoorQTree1
import Derived.Test.YtojafegjlahajaaGreatDoorQSpProof
open Go Go.Sp Go.Proofs.Tryz
set_option maxRecDepth 100000
set_option maxHeartbeats 1000000
attribute [local irreducible] obj Own OwnP
namespace Go.Proofs.YtojafegjlahajaaGreatDoor
theorem indexStub_c {r:Fr} {va:Value} {xs:List StubT} {f:FuncId} {first cap:Array Value} (ha:Arr StubRp r va xs) (hc:callable prog f=true) (q:StubT→Bool)
  (con:∀ cs x,x∈xs→StubRp.rel r cs x→Con prog f (first++#[.agg cs.toArray]++cap) r [] (Ret fun v η=>v=.bool (q x)∧η=[])) :
  Con prog 288 #[va,.func (.func f) first cap] r [] (Ret fun v η=>∃ k:Int,v=.int .i64 k∧(0≤k↔xs.any q=true)∧η=[]):=by
 have har:=ha;refine Con.of (n:=19) [va,.func (.func f) first cap] rfl func288 rfl rfl rfl fun g hg R hR=>?_;have ha:=ha.mono hg;have hbd:=ha.bound;obtain ⟨a1,c1,rfl⟩:=ha.shape;refine S.seq<|S.region rfl<|O.q 1 rfl<|O.nil<|S.seq<|S.seq<|S.region rfl<|O.q 1 rfl<|O.op (.p rfl) (.len rfl underlying110 rfl)<|O.q 1 rfl<|O.nil<|S.block<|S.loopK (ι:=Nat) (fun i=>i≤xs.length∧(xs.take i).any q=false) (fun i=>[(8,.int .i64 (i:Int))]) [(0,_),(1,_),(7,_)] (fun i=>[]) (fun i=>xs.length - i) (0) (by exact ⟨by simp,by simp⟩) (.cons rfl (.nil)) (.cons rfl (.cons rfl (.cons rfl (.nil)))) rfl fun i hx ih=>?_;have hm1:=meltRefl (g:=g);obtain ⟨hx1,hx2⟩:=hx;refine S.seq<|S.region rfl<|O.op (.p rfl) (.lss rfl rfl)<|O.nil (S.seq ?_)
 first|refine S.condD rfl (fun h9=>?_) (fun h9=>?_)|refine S.condB rfl (fun h9=>?_) (fun h9=>?_)
 ·have hi:i<xs.length:=by omega
  cases e:q xs[i] with
  |true =>
   have hy:xs.any q=true:=List.any_eq_true.2 ⟨xs[i],List.getElem_mem hi,e⟩;clear ih;refine S.skip<|S.seq<|S.block<|S.seq<|S.region rfl<|O.q 2 rfl<|O.nil<|S.seq<|S.region rfl<|O.q 3 rfl<|O.ib (.p rfl) underlying110 size196 rfl rfl rfl har hg (h:=fun p14 cs14 hp14 hrr14=>?_);have hr14:=Rp.rel.mono hrr14 hg;obtain ⟨sa1_14,sc1_14,rfl,ho0_14,ha1_14⟩:=StubRp.sh hr14;refine O.op (.p rfl) (.loadAgg isAgg196 zD rfl hp14) ?_;refine O.call0 (.p rfl) rfl hc rfl rfl (((con _ _ (List.getElem_mem hi) hrr14).sub hg)) ?_;rintro _ _ ⟨rfl,rfl⟩
   try simp only [zx1,zx2,zx3]
   refine O.sT 16 rfl (by exact e) ?_;refine O.nil<|S.condT rfl<|S.seq<|S.region rfl<|O.q 2 rfl<|O.nil ?_;exact S.rt results288 rfl hR ⟨(i:Int),rfl,⟨fun _=>hy,fun _=>by omega⟩,rfl⟩
  |false =>
   refine S.skip<|S.seq<|S.block<|S.seq<|S.region rfl<|O.q 2 rfl<|O.nil<|S.seq<|S.region rfl<|O.q 3 rfl<|O.ib (.p rfl) underlying110 size196 rfl rfl rfl har hg (h:=fun p14 cs14 hp14 hrr14=>?_);have hr14:=Rp.rel.mono hrr14 hg;obtain ⟨sa1_14,sc1_14,rfl,ho0_14,ha1_14⟩:=StubRp.sh hr14;refine O.op (.p rfl) (.loadAgg isAgg196 zD rfl hp14) ?_;refine O.call0 (.p rfl) rfl hc rfl rfl (((con _ _ (List.getElem_mem hi) hrr14).sub hg)) ?_;rintro _ _ ⟨rfl,rfl⟩
   try simp only [zx1,zx2,zx3]
   refine O.sF 16 rfl (by exact e) ?_;refine O.nil<|S.condF rfl<|S.skip<|S.inBlock<|S.region rfl<|O.op (.p rfl) (.add rfl rfl (IntWalk.i64_in _ zC))<|O.q 1 rfl<|O.nil ?_;exact S.wk (ih (i+1) (by exact ⟨by omega,by rw [List.take_succ_eq_append_getElem hi,List.any_append,hx2];simp [e]⟩) zC)
 ·clear ih
  have hi:i=xs.length:=by omega
  subst hi;rw [List.take_length] at hx2;refine S.exit rfl<|S.seq<|S.region rfl<|O.q 1 rfl<|O.nil ?_;exact S.rt results288 rfl hR ⟨-1,rfl,⟨fun h=>absurd h zF,fun h=>by rw [hx2] at h;cases h⟩,rfl⟩
theorem containsStub_c {r:Fr} {va:Value} {xs:List StubT} {f:FuncId} {first cap:Array Value} (ha:Arr StubRp r va xs) (hc:callable prog f=true) (q:StubT→Bool)
  (con:∀ cs x,x∈xs→StubRp.rel r cs x→Con prog f (first++#[.agg cs.toArray]++cap) r [] (Ret fun v η=>v=.bool (q x)∧η=[])) (h1:(Value.func (.func f) first cap).oneCell' =true) :
  Con prog 213 #[va,.func (.func f) first cap] r [] (Ret fun v η=>v=.bool (xs.any q)∧η=[]):=by
 refine Con.of (n:=9) [va,.func (.func f) first cap] rfl func213 rfl rfl rfl fun g hg R hR=>?_;refine S.seq<|S.region rfl<|O.q 1 rfl<|O.nil<|S.seq<|S.region rfl<|O.q 2 rfl<|O.call0 (.p rfl) rfl zD rfl rfl (((indexStub_c ha hc q con).sub hg)) ?_;rintro v7 _ ⟨k7,rfl,hk7,rfl⟩
 try simp only [zx1,zx2,zx3]
 refine O.op (.p rfl) (.geq rfl rfl)<|O.q 1 rfl<|O.nil ?_;exact S.rt results213 rfl hR ⟨congrArg _ (by rw [Bool.eq_iff_iff,decide_eq_true_iff];exact hk7),rfl⟩
theorem sat_at {η:List SProp} {b:Nat} {T:TypeId} {cs:List Value} {m:Fr} (h:Sat (obj b T cs::η) m):At m ⟨b,0,none⟩ cs:=by
 obtain ⟨m1,_,_,s1,_,o,_⟩:=h;exact (obj_at o).mono s1
theorem take_str {xs:List UInt8} {n:Nat} (h:n≤xs.length):(xs.take n).length=n:=by rw [List.length_take];omega
theorem begin1_c {r:Fr} {bn bw b bp:Nat} {n:Int} {way:List UInt8} {x:PrfT} {e:StubT} {cs:List Value} {a0 a1:Option Addr} {c0 c1:Nat} (he:StubRp.rel r cs e) (hel:e.1.length≤10000000000) (hn:At r ⟨bn,0,none⟩ [.int .i64 n]) (hw:At r ⟨bw,0,none⟩ [.pointer (some ⟨b,0,none⟩)])
  (hb:At r ⟨b,0,none⟩ [.slice a0 x.1.length c0,.slice a1 x.2.1.length c1,.int .i64 n,.string (str way)]) (hp:At r ⟨bp,0,none⟩ [.slice a0 x.1.length c0,.slice a1 x.2.1.length c1]) (hl:x.1.length≤way.length) (hwl:way.length≤510)
  (hH:At r ⟨0,0,none⟩ (w64s shaH)) (hK:At r ⟨1,0,none⟩ (w64s shaK)) :
  Con prog 214 #[.agg cs.toArray,.pointer (some ⟨bn,0,none⟩),.pointer (some ⟨bw,0,none⟩),.pointer (some ⟨bp,0,none⟩)] r [] (Ret fun v η=>v=.bool (!(decide ((shardOf e.1:Int)=n) && (way.take x.1.length).isPrefixOf (wayOf e.1)))∧η=[]):=by
 obtain ⟨l1,m1,rfl,l2,l3⟩:=StubRp.sh he;have htk:=take_str hl;refine Con.of (n:=26) _ rfl func214 rfl rfl rfl fun g hg R hR=>?_;have hn:=hn.mono hg;have hw:=hw.mono hg;have hb:=hb.mono hg;have hp:=hp.mono hg;have hH:=hH.mono hg;have hK:=hK.mono hg
 by_cases q:(shardOf e.1:Int)=n
 ·have e0:(!(decide ((shardOf e.1:Int)=n) && (way.take x.1.length).isPrefixOf (wayOf e.1)))=!(way.take x.1.length).isPrefixOf (wayOf e.1):=by rw [decide_eq_true q,Bool.true_and]
  refine S.seq<|S.region rfl<|O.opE (.p rfl) (.box (cs:=[_,_]) rfl rfl) ?_;rintro _ _ ⟨b4,rfl,rfl⟩;refine O.q 1 rfl<|O.nil<|S.seq<|S.objIs (b:=b4) (cs' :=[.string (str e.1),.slice l1 e.2.1.length m1]) zB rfl ?_;refine S.frzO zB fun g hs hm h4=>?_;replace hg:=Fr.sub_trans hg hs;replace hR:=melted hR hm
  try replace hn:=hn.mono hs
  try replace hw:=hw.mono hs
  try replace hb:=hb.mono hs
  try replace hp:=hp.mono hs
  try replace hH:=hH.mono hs
  try replace hK:=hK.mono hs
  clear hs hm;refine S.regionD (L:=[0,1,3,2,4,5,6,7,9,10,11,12,13,14,15,16,8,17,18,19,20]) mixedF zD ?_;refine .quiet (.p rfl) rfl (fun _=>.fieldAddr fld196x0 rfl)<|.quiet (.p rfl) rfl (fun _=>.loadAt flat9 rfl h4 rfl) ?_;refine .quiet (.p rfl) rfl (fun _=>.loadAt flat3 rfl hn rfl) ?_;refine OD.call0 (.p rfl) zD rfl zD rfl rfl ((shOf_c hH hK hel)) ?_;rintro _ _ ⟨rfl,rfl⟩
  try simp only [zx1,zx2,zx3]
  refine .quiet (.p rfl) rfl (fun _=>.neq rfl rfl)<|OD.sF 10 rfl (by simpa using q) ?_;refine OD.q 1 rfl<|.quiet (.g rfl rfl) rfl (fun _=>.fieldAddr fld196x0 rfl)<|.quiet (.g rfl rfl) rfl (fun _=>.loadAt flat9 rfl h4 rfl) ?_;refine .quiet (.g rfl rfl) rfl (fun _=>.loadAt flat198 rfl hw rfl) ?_;refine .quiet (.g rfl rfl) rfl (fun _=>.nilCheck rfl)<|.quiet (.g rfl rfl) rfl (fun _=>.fieldAddr fld281x2 rfl)<|.quiet (.g rfl rfl) rfl (fun _=>.loadAt flat9 rfl (hb.drop 3) rfl) ?_;refine .quiet (.g rfl rfl) rfl (fun _=>.fieldAddr fld112x0 rfl)<|.quiet (.g rfl rfl) rfl (fun _=>.loadAt flat109 rfl hp rfl) ?_;refine .quiet (.g rfl rfl) rfl (fun _=>.len rfl underlying109 rfl)<|.quiet (.g rfl rfl) rfl (fun _=>Does.strTo (b:=x.1.length) underlying9 rfl rfl (show _=(((x.1.length):Nat):Int) by omega) zI) ?_;refine OD.call0 (.g rfl rfl) zD rfl zD rfl rfl ((shBits_c hH hK hel)) ?_;rintro _ _ ⟨rfl,rfl⟩
  try simp only [zx1,zx2,zx3]
  refine OD.call0 (.g rfl rfl) zD rfl zD rfl rfl ((hasPrefix_c zL zC)) ?_;rintro _ _ ⟨rfl,rfl⟩
  try simp only [zx1,zx2,zx3]
  refine .quiet (.g rfl rfl) rfl (fun _=>(by first|exact .notD rfl|exact .not rfl)) ?_;refine OD.q 2 rfl<|ODx.nil ?_;exact S.rt results214 rfl hR ⟨congrArg Value.bool e0.symm,rfl⟩
 ·have e0:(!(decide ((shardOf e.1:Int)=n) && (way.take x.1.length).isPrefixOf (wayOf e.1)))=true:=by rw [decide_eq_false q];rfl
  refine S.seq<|S.region rfl<|O.opE (.p rfl) (.box (cs:=[_,_]) rfl rfl) ?_;rintro _ _ ⟨b4,rfl,rfl⟩;refine O.q 1 rfl<|O.nil<|S.seq<|S.objIs (b:=b4) (cs' :=[.string (str e.1),.slice l1 e.2.1.length m1]) zB rfl ?_;refine S.frzO zB fun g hs hm h4=>?_;replace hg:=Fr.sub_trans hg hs;replace hR:=melted hR hm
  try replace hn:=hn.mono hs
  try replace hw:=hw.mono hs
  try replace hb:=hb.mono hs
  try replace hp:=hp.mono hs
  try replace hH:=hH.mono hs
  try replace hK:=hK.mono hs
  clear hs hm;refine S.regionD (L:=[0,1,3,2,4,5,6,7,9,10,11,12,13,14,15,16,8,17,18,19,20]) mixedF zD ?_;refine .quiet (.p rfl) rfl (fun _=>.fieldAddr fld196x0 rfl)<|.quiet (.p rfl) rfl (fun _=>.loadAt flat9 rfl h4 rfl) ?_;refine .quiet (.p rfl) rfl (fun _=>.loadAt flat3 rfl hn rfl) ?_;refine OD.call0 (.p rfl) zD rfl zD rfl rfl ((shOf_c hH hK hel)) ?_;rintro _ _ ⟨rfl,rfl⟩
  try simp only [zx1,zx2,zx3]
  refine .quiet (.p rfl) rfl (fun _=>.neq rfl rfl)<|OD.sT 10 rfl (by simpa using q) ?_;refine OD.q 16 rfl<|ODx.nil ?_;exact S.rt results214 rfl hR ⟨congrArg Value.bool e0.symm,rfl⟩
theorem beg_any {n:Int} {key:List UInt8} {x:PrfT} (h1:prfOk x) (h2:keyOk key) (h3:(shardOf key:Int)=n) :
  (x.2.1.any fun e=>!(decide ((shardOf e.1:Int)=n) && ((wayOf key).take x.1.length).isPrefixOf (wayOf e.1)))=!decide (begOk n key x):=by
 rw [Bool.eq_iff_iff,List.any_eq_true]
 constructor
 ·rintro ⟨e,he,h⟩
  rw [Bool.not_eq_true'] at h ⊢;rw [decide_eq_false_iff_not]
  intro w
  obtain ⟨w1,w2⟩:=w.2.2.2 e he;rw [w1,w2] at h
  simp at h
 ·intro h
  rw [Bool.not_eq_true',decide_eq_false_iff_not] at h;refine Classical.byContradiction fun hc=>h ⟨h1,h2,h3,fun e he=>?_⟩;have hn:¬ (!(decide ((shardOf e.1:Int)=n) && ((wayOf key).take x.1.length).isPrefixOf (wayOf e.1)))=true:=fun q=>hc ⟨e,he,q⟩;rw [Bool.not_eq_true',Bool.not_eq_false,Bool.and_eq_true,decide_eq_true_iff] at hn;exact hn
abbrev walkV (a0:Option Addr) (c0:Nat) (a1:Option Addr) (c1:Nat) (n:Int) (key:List UInt8) (x:PrfT):List Value:=[.slice a0 x.1.length c0,.slice a1 x.2.1.length c1,.int .i64 n,.string (str (wayOf key))]
theorem begin_y {r:Fr} {n:Int} {key:List UInt8} {x:PrfT} {a0 a1:Option Addr} {c0 c1:Nat} (k0:Arr (Rp.slice Rp.u8) r (.slice a0 x.1.length c0) x.1) (k1:Arr StubRp r (.slice a1 x.2.1.length c1) x.2.1) (hn:InI64 n) (h1:prfOk x) (h2:keyOk key) (h3:(shardOf key:Int)=n)
  (hH:At r ⟨0,0,none⟩ (w64s shaH)) (hK:At r ⟨1,0,none⟩ (w64s shaK)) :
  Con prog 131 #[.int .i64 n,.string (str key),.agg #[.slice a0 x.1.length c0,.slice a1 x.2.1.length c1]] r [] (Ret fun u η=>∃ b,u=.tuple #[.pointer (some ⟨b,0,none⟩),.bool (decide (begOk n key x))]∧η=[obj b 281 (walkV a0 c0 a1 c1 n key x)]):=by
 have hk64:=h2.2;have hany:=beg_any h1 h2 h3;have h510:=h1.1.1;refine Con.of (n:=35) _ rfl func131 rfl rfl rfl fun g hg R hR=>?_;have k0:=k0.mono hg;have k1:=k1.mono hg;have hH:=hH.mono hg;have hK:=hK.mono hg;refine S.seq<|S.region rfl<|O.opE (.p rfl) (.box (cs:=[_]) rfl rfl) ?_;rintro _ _ ⟨b3,rfl,rfl⟩;refine O.opE (.p rfl) (.box (cs:=[_,_]) rfl rfl) ?_;rintro _ _ ⟨b5,rfl,rfl⟩;refine O.q 2 rfl<|O.nil<|S.seq<|S.seq<|S.objIs (b:=b3) (cs' :=[.int .i64 n]) zB rfl ?_;refine S.frzO zB fun g hs hm hn3=>?_;replace hg:=Fr.sub_trans hg hs;replace hR:=melted hR hm
 try replace k0:=k0.mono hs
 try replace k1:=k1.mono hs
 try replace hH:=hH.mono hs
 try replace hK:=hK.mono hs
 clear hs hm;refine S.objIs (b:=b5) (cs' :=[.slice a0 x.1.length c0,.slice a1 x.2.1.length c1]) zB rfl ?_;refine S.frzO zB fun g hs hm h5=>?_;replace hg:=Fr.sub_trans hg hs;replace hR:=melted hR hm
 try replace k0:=k0.mono hs
 try replace k1:=k1.mono hs
 try replace hH:=hH.mono hs
 try replace hK:=hK.mono hs
 try replace hn3:=hn3.mono hs
 clear hs hm;refine S.regionD (L:=[0,1,2,3,4,5,6,7,8,9,11,10,12,13]) mixedF zD ?_;refine .quiet (.p rfl) rfl (fun _=>.loadAgg isAgg112 zD rfl h5) ?_;refine OD.call0 (.p rfl) zD rfl zD rfl rfl ((pRight_c (PrfRp.mk k0 k1))) ?_;rintro _ _ ⟨rfl,rfl⟩
 try simp only [zx1,zx2,zx3]
 refine .quiet (.p rfl) rfl (fun _=>(by first|exact .notD rfl|exact .not rfl)) ?_;refine OD.sF 11 rfl (by simpa using h1) ?_;refine OD.q 2 rfl<|OD.call0 (.g rfl rfl) zD rfl zD rfl rfl ((plong_c zI)) ?_;rintro _ _ ⟨rfl,rfl⟩
 try simp only [zx1,zx2,zx3]
 refine .quiet (.g rfl rfl) rfl (fun _=>(by first|exact .notD rfl|exact .not rfl)) ?_;refine OD.sF 15 rfl (by simpa using h2) ?_;refine OD.q 3 rfl<|.quiet (.g rfl rfl) rfl (fun _=>.loadAt flat3 rfl hn3 rfl) ?_;refine OD.call0 (.g rfl rfl) zD rfl zD rfl rfl ((shOf_c zE zE zI)) ?_;rintro _ _ ⟨rfl,rfl⟩
 try simp only [zx1,zx2,zx3]
 refine .quiet (.g rfl rfl) rfl (fun _=>.neq rfl rfl)<|OD.sF 21 rfl (by simpa using h3) ?_;refine OD.q 1 rfl<|ODx.nil<|S.condF rfl<|S.skip<|S.seq<|S.regionD (L:=[0,1,2,3,4,5,6,7]) mixedF zD<|.quiet (.p rfl) rfl (fun _=>.loadAgg isAgg112 zD rfl h5) ?_;refine .quiet (.p rfl) rfl (fun _=>.loadAt flat3 rfl hn3 rfl) ?_;refine OD.q 1 rfl<|OD.call0 (.p rfl) zD rfl zD rfl rfl ((shBits_c zE zE zI)) ?_;rintro _ _ ⟨rfl,rfl⟩
 try simp only [zx1,zx2,zx3]
 refine .quiet (.p rfl) rfl (fun _=>.build (cs:=[_,_,_,_]) underlying281 rfl rfl rfl rfl rfl)<|OD.boxP (cs:=[_,_,_,_]) (.p rfl) zD rfl rfl (fun b28=>?_);refine .lazy rfl zD rfl fun b8=>?_;refine OD.store1 rfl zD flat198 rfl rfl zN zB zH ?_;refine ODx.nil<|S.seq<|S.objIs (b:=b8) (cs' :=[.pointer (some ⟨b28,0,none⟩)]) zB rfl ?_;refine S.frzO zB fun g hs hm hn8=>?_;replace hg:=Fr.sub_trans hg hs;replace hR:=melted hR hm
 try replace k0:=k0.mono hs
 try replace k1:=k1.mono hs
 try replace hH:=hH.mono hs
 try replace hK:=hK.mono hs
 try replace hn3:=hn3.mono hs
 try replace h5:=h5.mono hs
 clear hs hm;refine S.objIs (b:=b28) (cs' :=walkV a0 c0 a1 c1 n key x) zB rfl ?_;refine S.regionD (L:=[0,1,2,3,4,5,6,7]) mixedF zD ?_;refine .quiet (.p rfl) rfl (fun _=>.loadAt flat198 rfl hn8 rfl) ?_;refine .quiet (.p rfl) rfl (fun _=>.fieldAddr fld112x1 rfl)<|.quiet (.p rfl) rfl (fun _=>.loadAt flat110 rfl (h5.drop 1) rfl) ?_;refine .quiet (.p rfl) rfl (fun _=>.mkFunc rfl rfl)<|OD.callB (.p rfl) zD rfl zD rfl rfl (bs:=[obj b28 281 (walkV a0 c0 a1 c1 n key x)]) zJ (fun m hm hd=>containsStub_c (k1.mono (Fr.sub_add_left _ _)) zD (fun e=>!(decide ((shardOf e.1:Int)=n) && ((wayOf key).take x.1.length).isPrefixOf (wayOf e.1))) (fun cs e hm2 he=>begin1_c he (by have:=(h1.2.2.1 e hm2).1.2;omega) (hn3.mono (Fr.sub_add_left _ _)) (hn8.mono (Fr.sub_add_left _ _)) ((sat_at hm).mono (Fr.sub_add_right hd)) (h5.mono (Fr.sub_add_left _ _)) zK zL (hH.mono (Fr.sub_add_left _ _)) (hK.mono (Fr.sub_add_left _ _))) rfl) ?_;rintro _ _ ⟨rfl,rfl⟩
 try simp only [zx1,zx2,zx3]
 rw [hany];refine .quiet (.p rfl) rfl (fun _=>(by first|exact .notD rfl|exact .not rfl)) ?_;refine OD.q 2 rfl<|ODx.nil<|S.ret2 results131 rfl rfl fun w hw=>Holds.end_ hR hw ?_;exact pk ⟨b28,by rw [Bool.not_not],rfl⟩
theorem begin_n {r:Fr} {n:Int} {key:List UInt8} {x:PrfT} {a0 a1:Option Addr} {c0 c1:Nat} (k0:Arr (Rp.slice Rp.u8) r (.slice a0 x.1.length c0) x.1) (k1:Arr StubRp r (.slice a1 x.2.1.length c1) x.2.1) (hkl:key.length≤10000000000) (h:¬ (prfOk x∧keyOk key∧(shardOf key:Int)=n))
  (hH:At r ⟨0,0,none⟩ (w64s shaH)) (hK:At r ⟨1,0,none⟩ (w64s shaK)) :
  Con prog 131 #[.int .i64 n,.string (str key),.agg #[.slice a0 x.1.length c0,.slice a1 x.2.1.length c1]] r [] (Ret fun u η=>u=.tuple #[.pointer none,.bool false]∧η=[]):=by
 refine Con.of (n:=35) _ rfl func131 rfl rfl rfl fun g hg R hR=>?_;have k0:=k0.mono hg;have k1:=k1.mono hg;have hH:=hH.mono hg;have hK:=hK.mono hg
 by_cases h1:prfOk x
 ·by_cases h2:keyOk key
  ·have h3:¬ (shardOf key:Int)=n:=fun q=>h ⟨h1,h2,q⟩
   refine S.seq<|S.region rfl<|O.opE (.p rfl) (.box (cs:=[_]) rfl rfl) ?_;rintro _ _ ⟨b3,rfl,rfl⟩;refine O.opE (.p rfl) (.box (cs:=[_,_]) rfl rfl) ?_;rintro _ _ ⟨b5,rfl,rfl⟩;refine O.q 2 rfl<|O.nil<|S.seq<|S.seq<|S.objIs (b:=b3) (cs' :=[.int .i64 n]) zB rfl ?_;refine S.frzO zB fun g hs hm hn3=>?_;replace hg:=Fr.sub_trans hg hs;replace hR:=melted hR hm
   try replace k0:=k0.mono hs
   try replace k1:=k1.mono hs
   try replace hH:=hH.mono hs
   try replace hK:=hK.mono hs
   clear hs hm;refine S.objIs (b:=b5) (cs' :=[.slice a0 x.1.length c0,.slice a1 x.2.1.length c1]) zB rfl ?_;refine S.frzO zB fun g hs hm h5=>?_;replace hg:=Fr.sub_trans hg hs;replace hR:=melted hR hm
   try replace k0:=k0.mono hs
   try replace k1:=k1.mono hs
   try replace hH:=hH.mono hs
   try replace hK:=hK.mono hs
   try replace hn3:=hn3.mono hs
   clear hs hm;refine S.regionD (L:=[0,1,2,3,4,5,6,7,8,9,11,10,12,13]) mixedF zD ?_;refine .quiet (.p rfl) rfl (fun _=>.loadAgg isAgg112 zD rfl h5) ?_;refine OD.call0 (.p rfl) zD rfl zD rfl rfl ((pRight_c (PrfRp.mk k0 k1))) ?_;rintro _ _ ⟨rfl,rfl⟩
   try simp only [zx1,zx2,zx3]
   refine .quiet (.p rfl) rfl (fun _=>(by first|exact .notD rfl|exact .not rfl)) ?_;refine OD.sF 11 rfl (by simpa using h1) ?_;refine OD.q 2 rfl<|OD.call0 (.g rfl rfl) zD rfl zD rfl rfl ((plong_c zI)) ?_;rintro _ _ ⟨rfl,rfl⟩
   try simp only [zx1,zx2,zx3]
   refine .quiet (.g rfl rfl) rfl (fun _=>(by first|exact .notD rfl|exact .not rfl)) ?_;refine OD.sF 15 rfl (by simpa using h2) ?_;refine OD.q 3 rfl<|.quiet (.g rfl rfl) rfl (fun _=>.loadAt flat3 rfl hn3 rfl) ?_;refine OD.call0 (.g rfl rfl) zD rfl zD rfl rfl ((shOf_c zE zE zI)) ?_;rintro _ _ ⟨rfl,rfl⟩
   try simp only [zx1,zx2,zx3]
   refine .quiet (.g rfl rfl) rfl (fun _=>.neq rfl rfl)<|OD.sT 21 rfl (by simpa using h3) ?_;refine OD.q 1 rfl<|ODx.nil<|S.condT rfl<|S.seq<|S.region rfl<|O.q 2 rfl<|O.nil<|S.ret2 results131 rfl rfl fun w hw=>Holds.end_ hR hw ?_;exact pk ⟨rfl,rfl⟩
  ·
   refine S.seq<|S.region rfl<|O.opE (.p rfl) (.box (cs:=[_]) rfl rfl) ?_;rintro _ _ ⟨b3,rfl,rfl⟩;refine O.opE (.p rfl) (.box (cs:=[_,_]) rfl rfl) ?_;rintro _ _ ⟨b5,rfl,rfl⟩;refine O.q 2 rfl<|O.nil<|S.seq<|S.seq<|S.objIs (b:=b3) (cs' :=[.int .i64 n]) zB rfl ?_;refine S.frzO zB fun g hs hm hn3=>?_;replace hg:=Fr.sub_trans hg hs;replace hR:=melted hR hm
   try replace k0:=k0.mono hs
   try replace k1:=k1.mono hs
   try replace hH:=hH.mono hs
   try replace hK:=hK.mono hs
   clear hs hm;refine S.objIs (b:=b5) (cs' :=[.slice a0 x.1.length c0,.slice a1 x.2.1.length c1]) zB rfl ?_;refine S.frzO zB fun g hs hm h5=>?_;replace hg:=Fr.sub_trans hg hs;replace hR:=melted hR hm
   try replace k0:=k0.mono hs
   try replace k1:=k1.mono hs
   try replace hH:=hH.mono hs
   try replace hK:=hK.mono hs
   try replace hn3:=hn3.mono hs
   clear hs hm;refine S.regionD (L:=[0,1,2,3,4,5,6,7,8,9,11,10,12,13]) mixedF zD ?_;refine .quiet (.p rfl) rfl (fun _=>.loadAgg isAgg112 zD rfl h5) ?_;refine OD.call0 (.p rfl) zD rfl zD rfl rfl ((pRight_c (PrfRp.mk k0 k1))) ?_;rintro _ _ ⟨rfl,rfl⟩
   try simp only [zx1,zx2,zx3]
   refine .quiet (.p rfl) rfl (fun _=>(by first|exact .notD rfl|exact .not rfl)) ?_;refine OD.sF 11 rfl (by simpa using h1) ?_;refine OD.q 2 rfl<|OD.call0 (.g rfl rfl) zD rfl zD rfl rfl ((plong_c zI)) ?_;rintro _ _ ⟨rfl,rfl⟩
   try simp only [zx1,zx2,zx3]
   refine .quiet (.g rfl rfl) rfl (fun _=>(by first|exact .notD rfl|exact .not rfl)) ?_;refine OD.sT 15 rfl (by simpa using h2) ?_;refine OD.q 7 rfl<|ODx.nil<|S.condT rfl<|S.seq<|S.region rfl<|O.q 2 rfl<|O.nil<|S.ret2 results131 rfl rfl fun w hw=>Holds.end_ hR hw ?_;exact pk ⟨rfl,rfl⟩
 ·
  refine S.seq<|S.region rfl<|O.opE (.p rfl) (.box (cs:=[_]) rfl rfl) ?_;rintro _ _ ⟨b3,rfl,rfl⟩;refine O.opE (.p rfl) (.box (cs:=[_,_]) rfl rfl) ?_;rintro _ _ ⟨b5,rfl,rfl⟩;refine O.q 2 rfl<|O.nil<|S.seq<|S.seq<|S.objIs (b:=b3) (cs' :=[.int .i64 n]) zB rfl ?_;refine S.frzO zB fun g hs hm hn3=>?_;replace hg:=Fr.sub_trans hg hs;replace hR:=melted hR hm
  try replace k0:=k0.mono hs
  try replace k1:=k1.mono hs
  try replace hH:=hH.mono hs
  try replace hK:=hK.mono hs
  clear hs hm;refine S.objIs (b:=b5) (cs' :=[.slice a0 x.1.length c0,.slice a1 x.2.1.length c1]) zB rfl ?_;refine S.frzO zB fun g hs hm h5=>?_;replace hg:=Fr.sub_trans hg hs;replace hR:=melted hR hm
  try replace k0:=k0.mono hs
  try replace k1:=k1.mono hs
  try replace hH:=hH.mono hs
  try replace hK:=hK.mono hs
  try replace hn3:=hn3.mono hs
  clear hs hm;refine S.regionD (L:=[0,1,2,3,4,5,6,7,8,9,11,10,12,13]) mixedF zD ?_;refine .quiet (.p rfl) rfl (fun _=>.loadAgg isAgg112 zD rfl h5) ?_;refine OD.call0 (.p rfl) zD rfl zD rfl rfl ((pRight_c (PrfRp.mk k0 k1))) ?_;rintro _ _ ⟨rfl,rfl⟩
  try simp only [zx1,zx2,zx3]
  refine .quiet (.p rfl) rfl (fun _=>(by first|exact .notD rfl|exact .not rfl)) ?_;refine OD.sT 11 rfl (by simpa using h1) ?_;refine OD.q 11 rfl<|ODx.nil<|S.condT rfl<|S.seq<|S.region rfl<|O.q 2 rfl<|O.nil<|S.ret2 results131 rfl rfl fun w hw=>Holds.end_ hR hw ?_;exact pk ⟨rfl,rfl⟩
theorem before_snoc {es:List StubT} {key:List UInt8} {k:Nat} {hk:k<es.length} (h:∀ i (_:i<es.length),i<k→es[i].1≠key) (q:es[k].1≠key):∀ i (_:i<es.length),i<k+1→es[i].1≠key:=fun i hi w=>by
 by_cases u:i<k
 ·exact h i hi u
 ·have:i=k:=by omega
  subst this;exact q
theorem pSays_c {r:Fr} {b:Nat} {n:Int} {key:List UInt8} {x:PrfT} {a0 a1:Option Addr} {c0 c1:Nat} (hb:At r ⟨b,0,none⟩ (walkV a0 c0 a1 c1 n key x)) (k1:Arr StubRp r (.slice a1 x.2.1.length c1) x.2.1) (hst:∀ e∈x.2.1,stubOk e) :
  Con prog 136 #[.pointer (some ⟨b,0,none⟩),.string (str key)] r [] (Ret fun v η=>∃ v',v=v' ∧(saysP key x.2.1=[]→v' =.slice none 0 0)∧η=[OwnP Rp.u8 5 v' (saysP key x.2.1)]):=by
 have hbd:=k1.bound;refine Con.of (n:=25) _ rfl func136 rfl rfl rfl fun g hg R hR=>?_;have hb:=hb.mono hg;have k1:=k1.mono hg;refine S.seq<|S.region rfl<|O.q 1 rfl<|O.nil<|S.seq<|S.seq<|S.region rfl<|O.q 1 rfl<|O.op (.p rfl) (.nilCheck rfl)<|O.op (.p rfl) (.fieldAddr fld281x0 rfl)<|O.op (.p rfl) (.fieldAddr fld112x1 rfl)<|O.op (.p rfl) (.loadAt flat110 rfl (hb.drop 1) rfl) ?_;refine O.op (.p rfl) (.len rfl underlying110 rfl)<|O.q 1 rfl<|O.nil<|S.block<|S.loopK (ι:=Nat) (fun k=>k≤x.2.1.length∧∀ i (_:i<x.2.1.length),i<k→x.2.1[i].1≠key) (fun k=>[(13,.int .i64 (k:Int))]) [(1,_),(11,_),(12,_)] (fun k=>[]) (fun k=>x.2.1.length - k) (0) (by exact ⟨by omega,fun i _ q=>by omega⟩) (.cons rfl (.nil)) (.cons rfl (.cons rfl (.cons rfl (.nil)))) rfl fun k hx ih=>?_;have hm1:=meltRefl (g:=g);obtain ⟨hx1,hall⟩:=hx;refine S.seq<|S.region rfl<|O.op (.p rfl) (.lss rfl rfl)<|O.nil (S.seq ?_)
 first|refine S.condD rfl (fun h14=>?_) (fun h14=>?_)|refine S.condB rfl (fun h14=>?_) (fun h14=>?_)
 ·have hk:k<x.2.1.length:=by omega
  have h64:=(hst _ (List.getElem_mem hk)).2;refine S.skip<|S.seq<|S.block<|S.seq<|S.region rfl<|O.ia (.p rfl) underlying110 size196 rfl rfl rfl (k1) (h:=fun p15 cs15 hp15 hr15=>?_);obtain ⟨l1,m1,rfl,l2,l3⟩:=StubRp.sh hr15;have l3:=l3;refine O.op (.p rfl) (.loadAgg isAgg196 zD rfl hp15) ?_;refine O.opE (.p rfl) (.alloc (cs:=[.string ⟨#[]⟩,.slice none 0 0]) zeroValue196 rfl) ?_;rintro _ _ ⟨b6,rfl,rfl⟩;refine O.opU rfl (.storeObj zD rfl rfl rfl rfl zB zH) ?_;refine O.nil<|S.seq<|S.objIs (b:=b6) (cs' :=[.string (str x.2.1[k].1),.slice l1 x.2.1[k].2.1.length m1]) zB rfl ?_;refine S.frzO zB fun g hs hm h6=>?_;replace hg:=Fr.sub_trans hg hs;replace hR:=melted hR hm
  try replace hb:=hb.mono hs
  try replace k1:=k1.mono hs
  try replace hp15:=hp15.mono hs
  try replace l3:=l3.mono hs
  replace hm1:=meltTrans hm1 hm;clear hs hm
  by_cases q:x.2.1[k].1=key
  ·have hs:=saysP_at hk (fun i hi=>hall i zC hi) q
   have hne:saysP key x.2.1≠[]:=fun e=>by rw [hs] at e;rw [e] at h64;exact absurd h64 zF
   clear ih;refine S.region rfl<|O.op (.p rfl) (.fieldAddr fld196x0 rfl)<|O.op (.p rfl) (.loadAt flat9 rfl h6 rfl) ?_;refine O.q 1 rfl<|O.op (.p rfl) (.eqlS rfl rfl)<|O.sT 20 rfl (by exact decide_eq_true (by rw [q])) ?_;refine O.nil<|S.condT rfl<|S.seq<|S.region rfl<|O.op (.p rfl) (.fieldAddr fld196x1 rfl)<|O.op (.p rfl) (.loadAt flat24 rfl (h6.drop 1) rfl) ?_;refine O.call0 (.p rfl) rfl zD rfl rfl ((cloneB_c l3 zC)) ?_;rintro _ _ ⟨a23,c23,rfl,rfl⟩
   try simp only [zx1,zx2,zx3]
   refine O.q 1 rfl<|O.nil ?_;exact S.rt results136 rfl hR ⟨.slice a23 x.2.1[k].2.1.length c23,rfl,fun e=>absurd e hne,by rw [hs]⟩
  ·
   refine S.region rfl<|O.op (.p rfl) (.fieldAddr fld196x0 rfl)<|O.op (.p rfl) (.loadAt flat9 rfl h6 rfl) ?_;refine O.q 1 rfl<|O.op (.p rfl) (.eqlS rfl rfl)<|O.sF 20 rfl (by exact decide_eq_false (fun w=>q (str_eqL w))) ?_;refine O.nil<|S.condF rfl<|S.skip<|S.inBlock<|S.region rfl<|O.op (.p rfl) (.add rfl rfl (IntWalk.i64_in _ zC))<|O.q 1 rfl<|O.nil ?_;have hnx:=before_snoc hall q;exact S.melt hm1 (S.wk (ih (k+1) (by exact ⟨by omega,hnx⟩) zC))
 ·clear ih
  have hs:saysP key x.2.1=[]:=saysP_no fun e he=>by
   obtain ⟨i,hi,rfl⟩:=List.mem_iff_getElem.1 he;exact hall i hi zC
  refine S.addNil (T:=Rp.u8) (e:=5) ?_;refine S.exit rfl<|S.seq<|S.region rfl<|O.q 1 rfl<|O.nil ?_;exact S.rt results136 rfl hR ⟨.slice none 0 0,rfl,fun _=>rfl,by rw [hs]⟩
theorem pEnd_c {r:Fr} {b:Nat} {n:Int} {key:List UInt8} {x:PrfT} {a0 a1:Option Addr} {c0 c1:Nat} (hb:At r ⟨b,0,none⟩ (walkV a0 c0 a1 c1 n key x)) (k1:Arr StubRp r (.slice a1 x.2.1.length c1) x.2.1) (hs:∀ e∈x.2.1,stubOk e) (hl:x.2.1.length≤1000000) :
  Con prog 218 #[.pointer (some ⟨b,0,none⟩)] r [] (Ret fun v η=>∃ a c,v=.slice a (endB x.2.1).length c∧η=[OwnP Rp.u8 5 (.slice a (endB x.2.1).length c) (endB x.2.1)]):=by
 have hbd:=k1.bound;have hat:=endTag_at x.2.1;refine Con.of (n:=38) _ rfl func218 rfl rfl rfl fun g hg R hR=>?_;have hb:=hb.mono hg;have k1:=k1.mono hg;refine S.seq<|S.region rfl<|O.q 1 rfl<|O.nil<|S.seq<|S.region rfl<|O.opE (.p rfl) (.litP (T:=Rp.u8) (ys:=[0,1,3]) underlying24 elem5 zF rfl rfl ⟨rfl,rfl,rfl,trivial⟩ zF) ?_;rintro _ _ ⟨a6,c6,rfl,rfl⟩;refine O.q 1 rfl<|O.op (.p rfl) (.nilCheck rfl)<|O.op (.p rfl) (.fieldAddr fld281x0 rfl)<|O.op (.p rfl) (.fieldAddr fld112x1 rfl)<|O.op (.p rfl) (.loadAt flat110 rfl (hb.drop 1) rfl) ?_;refine O.op (.p rfl) (.len rfl underlying110 rfl)<|O.op (.p rfl) (.min2 rfl rfl)<|O.opE (.p rfl) (.idxOwn (T:=Rp.u8) underlying24 size5 rfl rfl (show _=(((min x.2.1.length 2):Nat):Int) by omega) zB zR) ?_;rintro _ _ ⟨p14,rfl,hp14,rfl⟩;refine O.op (.p rfl) (.loadOwn (T:=Rp.u8) (xs:=[0,1,3]) (j:=min x.2.1.length 2) flat5 rfl hp14 rfl zB (endTag_lt _) (by rintro _ rfl;exact congrArg (fun v=>[byteV v]) hat)) ?_;refine O.opE (.p rfl) (.litP (T:=Rp.u8) (ys:=[endTag x.2.1.length]) underlying24 elem5 zF rfl rfl ⟨rfl,trivial⟩ zF) ?_;rintro _ _ ⟨a16,c16,rfl,rfl⟩;refine O.q 1 rfl<|O.nil<|S.seq<|S.seq<|S.frz (A:=OwnP Rp.u8 5 (.slice a6 3 c6) [0,1,3]) zB fun g hs hm ⟨_,x',s'⟩=>?_;have h9:=(fun s x=>Arr.mono s (OwnP.arr x)) s' x';clear x' s';replace hg:=Fr.sub_trans hg hs;replace hR:=melted hR hm
 try replace hb:=hb.mono hs
 try replace k1:=k1.mono hs
 clear hs hm;refine S.ownIs (T:=Rp.u8) (e:=5) (v' :=.slice a16 (endTag x.2.1.length::stubsB (x.2.1.take 0)).length c16) (xs' :=endTag x.2.1.length::stubsB (x.2.1.take 0)) zB (by simp [stubsB]) (by simp [stubsB]) ?_;refine S.slot 3 (v' :=.slice a16 (endTag x.2.1.length::stubsB (x.2.1.take 0)).length c16) rfl (by simp [stubsB]) ?_;refine S.region rfl<|O.q 1 rfl<|O.op (.p rfl) (.nilCheck rfl)<|O.op (.p rfl) (.fieldAddr fld281x0 rfl)<|O.op (.p rfl) (.fieldAddr fld112x1 rfl)<|O.op (.p rfl) (.loadAt flat110 rfl (hb.drop 1) rfl) ?_;refine O.op (.p rfl) (.len rfl underlying110 rfl)<|O.q 1 rfl<|O.nil<|S.block<|S.loopK2 (ι:=Nat) (κ:=Option Addr × Nat) (fun k s=>k≤x.2.1.length) (fun k s=>[(23,.int .i64 (k:Int)),(3,.slice s.1 (endTag x.2.1.length::stubsB (x.2.1.take k)).length s.2)]) [(21,_),(22,_)] (fun k s=>[OwnP Rp.u8 5 (.slice s.1 (endTag x.2.1.length::stubsB (x.2.1.take k)).length s.2) (endTag x.2.1.length::stubsB (x.2.1.take k))]) (fun k s=>x.2.1.length - k) (0) ((a16,c16)) zL (.cons rfl (.cons rfl (.nil))) (.cons rfl (.cons rfl (.nil))) rfl fun k s hx ih=>?_;have hm1:=meltRefl (g:=g);refine S.seq<|S.region rfl<|O.op (.p rfl) (.lss rfl rfl)<|O.nil (S.seq ?_)
 first|refine S.condD rfl (fun h24=>?_) (fun h24=>?_)|refine S.condB rfl (fun h24=>?_) (fun h24=>?_)
 ·have hk:k<x.2.1.length:=by omega
  have hz:=hs _ (List.getElem_mem hk);have hsn:=stubsB_snoc hk;have hrk:=stubsB_len (es:=x.2.1.take k) fun z hz=>hs z (List.mem_of_mem_take hz);have htk:(x.2.1.take k).length=k:=by rw [List.length_take];omega
  refine S.skip<|S.seq<|S.block<|S.seq<|S.region rfl<|O.ia (.p rfl) underlying110 size196 rfl rfl rfl (k1) (h:=fun p25 cs25 hp25 hr25=>?_);obtain ⟨l1,m1,rfl,l2,l3⟩:=StubRp.sh hr25;have l3:=l3;refine O.op (.p rfl) (.loadAgg isAgg196 zD rfl hp25) ?_;refine O.opE (.p rfl) (.alloc (cs:=[.string ⟨#[]⟩,.slice none 0 0]) zeroValue196 rfl) ?_;rintro _ _ ⟨b5,rfl,rfl⟩;refine O.opU rfl (.storeObj zD rfl rfl rfl rfl zB zH) ?_;refine O.nil ?_;generalize x.2.1[k]=z at *;obtain ⟨⟨_,hz1⟩,hz2⟩:=hz;refine S.objIs (b:=b5) (cs' :=[.string (str z.1),.slice l1 z.2.1.length m1]) zB rfl ?_;refine S.frzO zB fun g hs hm h5=>?_;replace hg:=Fr.sub_trans hg hs;replace hR:=melted hR hm
  try replace hb:=hb.mono hs
  try replace k1:=k1.mono hs
  try replace h9:=h9.mono hs
  try replace hp25:=hp25.mono hs
  try replace l3:=l3.mono hs
  replace hm1:=meltTrans hm1 hm;clear hs hm;generalize hO:endTag x.2.1.length::stubsB (x.2.1.take k)=Oz;have hOl:Oz.length≤200000000:=by rw [← hO,List.length_cons];rw [htk] at hrk;omega
  refine S.regionD (L:=[0,1,2,5,6,3,4,7,8,9]) mixedF zD ?_;refine OD.q 1 rfl<|.quiet (.p rfl) rfl (fun _=>.fieldAddr fld196x0 rfl)<|.quiet (.p rfl) rfl (fun _=>.loadAt flat9 rfl h5 rfl) ?_;refine .quiet (.p rfl) rfl (fun _=>.fieldAddr fld196x1 rfl)<|.quiet (.p rfl) rfl (fun _=>.loadAt flat24 rfl (h5.drop 1) rfl) ?_;refine OD.strBytesO (.p rfl) zD underlying9 underlying24 underlying5 rfl (by first|assumption|omega|(simp;done)|(simp;omega)) (fun a30 c30=>?_);refine OD.callB (.p rfl) zD rfl zD rfl rfl (bs:=[OwnP Rp.u8 5 (.slice a30 z.1.length c30) z.1]) zJ (fun m hm hd=>wBytes_c ((owned_one hm).right hd) zC) ?_;rintro _ _ ⟨a31,c31,rfl,rfl⟩
  try simp only [zx1,zx2,zx3]
  refine OD.litP (.p rfl) zD (T:=Rp.val) (ys:=[.slice s.1 Oz.length s.2,.slice a31 (bytesOf z.1).length c31,.slice l1 z.2.1.length m1]) underlying109 elem24 zF rfl rfl ⟨⟨rfl,rfl⟩,⟨rfl,rfl⟩,⟨rfl,rfl⟩,trivial⟩ zF (fun a34 c34=>?_);refine OD.callB (.p rfl) zD rfl zD rfl rfl (bs:=[OwnP Rp.val 24 (.slice a34 3 c34) [.slice s.1 Oz.length s.2,.slice a31 (bytesOf z.1).length c31,.slice l1 z.2.1.length m1],OwnP Rp.u8 5 (.slice s.1 Oz.length s.2) Oz,OwnP Rp.u8 5 (.slice a31 (bytesOf z.1).length c31) (bytesOf z.1)]) zJ (fun m hm hd=>wJoin_c (xss:=[Oz,bytesOf z.1,z.2.1]) ((hm.arr.right hd).rows ⟨hm.tail.arr.right hd,hm.tail.tail.arr.right hd,l3.left,trivial⟩) (by simp only [List.flatten_cons,List.flatten_nil,List.append_nil,List.length_append,bytesOf_length];omega)) ?_;rintro _ _ ⟨a35,c35,rfl,rfl⟩
  try simp only [zx1,zx2,zx3]
  refine OD.q 1 rfl<|ODx.nil (S.inBlock ?_);have e2:[Oz,bytesOf z.1,z.2.1].flatten=endTag x.2.1.length::stubsB (x.2.1.take (k+1)):=by rw [hsn,← hO];simp
  refine S.ownIs (T:=Rp.u8) (e:=5) (v' :=.slice a35 (endTag x.2.1.length::stubsB (x.2.1.take (k+1))).length c35) (xs' :=endTag x.2.1.length::stubsB (x.2.1.take (k+1))) zB (by rw [e2]) e2 ?_;refine S.slot 3 (v' :=.slice a35 (endTag x.2.1.length::stubsB (x.2.1.take (k+1))).length c35) rfl (by rw [e2]) ?_;refine S.frz (A:=OwnP Rp.val 24 (.slice a34 3 c34) [.slice s.1 Oz.length s.2,.slice a31 (bytesOf z.1).length c31,.slice l1 z.2.1.length m1]) zB fun g hs hm ⟨_,x',s'⟩=>?_;have g1:=(fun s x=>Arr.mono s (OwnP.arr x)) s' x';clear x' s';replace hg:=Fr.sub_trans hg hs;replace hR:=melted hR hm
  try replace hb:=hb.mono hs
  try replace k1:=k1.mono hs
  try replace h9:=h9.mono hs
  try replace hp25:=hp25.mono hs
  try replace l3:=l3.mono hs
  try replace h5:=h5.mono hs
  replace hm1:=meltTrans hm1 hm;clear hs hm;refine S.frz (A:=OwnP Rp.u8 5 (.slice s.1 Oz.length s.2) Oz) zB fun g hs hm ⟨_,x',s'⟩=>?_;have g2:=(fun s x=>Arr.mono s (OwnP.arr x)) s' x';clear x' s';replace hg:=Fr.sub_trans hg hs;replace hR:=melted hR hm
  try replace hb:=hb.mono hs
  try replace k1:=k1.mono hs
  try replace h9:=h9.mono hs
  try replace hp25:=hp25.mono hs
  try replace l3:=l3.mono hs
  try replace h5:=h5.mono hs
  try replace g1:=g1.mono hs
  replace hm1:=meltTrans hm1 hm;clear hs hm;refine S.frz (A:=OwnP Rp.u8 5 (.slice a31 (bytesOf z.1).length c31) (bytesOf z.1)) zB fun g hs hm ⟨_,x',s'⟩=>?_;have g3:=(fun s x=>Arr.mono s (OwnP.arr x)) s' x';clear x' s';replace hg:=Fr.sub_trans hg hs;replace hR:=melted hR hm
  try replace hb:=hb.mono hs
  try replace k1:=k1.mono hs
  try replace h9:=h9.mono hs
  try replace hp25:=hp25.mono hs
  try replace l3:=l3.mono hs
  try replace h5:=h5.mono hs
  try replace g1:=g1.mono hs
  try replace g2:=g2.mono hs
  replace hm1:=meltTrans hm1 hm;clear hs hm;refine S.frz (A:=OwnP Rp.u8 5 (.slice a30 z.1.length c30) z.1) zB fun g hs hm ⟨_,x',s'⟩=>?_;have g4:=(fun s x=>Arr.mono s (OwnP.arr x)) s' x';clear x' s';replace hg:=Fr.sub_trans hg hs;replace hR:=melted hR hm
  try replace hb:=hb.mono hs
  try replace k1:=k1.mono hs
  try replace h9:=h9.mono hs
  try replace hp25:=hp25.mono hs
  try replace l3:=l3.mono hs
  try replace h5:=h5.mono hs
  try replace g1:=g1.mono hs
  try replace g2:=g2.mono hs
  try replace g3:=g3.mono hs
  replace hm1:=meltTrans hm1 hm;clear hs hm;refine S.region rfl<|O.op (.p rfl) (.add rfl rfl (IntWalk.i64_in _ zC))<|O.q 1 rfl<|O.nil ?_;exact S.melt hm1 (S.pw (ih (k+1) ((a35,c35)) zC zC))
 ·clear ih
  have hk:k=x.2.1.length:=by omega
  subst hk;rw [List.take_length];refine S.exit rfl<|S.seq<|S.region rfl<|O.q 2 rfl<|O.nil ?_;exact S.rt results218 rfl hR ⟨s.1,s.2,rfl,rfl⟩
end Go.Proofs.YtojafegjlahajaaGreatDoor
