/- Texts of this proof. -/
import Derived.Test.YtojafegjlahajaaGreatDoorQPrf3
import Derived.Test.YtojafegjlahajaaGreatDoorQSpRangeD
open Go Go.Sp Go.Proofs.Tryz
set_option maxRecDepth 100000
set_option maxHeartbeats 1000000
attribute [local irreducible] obj Own OwnP
namespace Go.Proofs.YtojafegjlahajaaGreatDoor
theorem one_rowA {g m:Fr} {e2:TypeId} {v1 v2:Value} {xs:List UInt8} (ha:Arr Rp.u8 g v1 xs) (hm:Sat [OwnP (Rp.cells 1) e2 v2 [[v1]]] m) (hd:g.disj m):Arr (Rp.slice Rp.u8) (g.add m) v2 [xs]:=by
 obtain ⟨m3,m4,_,s3,s4,o2,_⟩:=hm;exact Arr.ofCells (T:=Rp.slice Rp.u8) (xs:=[xs]) ((o2.arr.mono s3).mono (Fr.sub_add_right hd)) ⟨⟨_,rfl,ha.mono (Fr.sub_add_left _ _)⟩,trivial⟩ rfl
def lastV (dn:List Value):Value:=dn.getLast?.getD (.slice none 0 0)
theorem lastV_snoc (dn:List Value) (y:Value):lastV (dn++[y])=y:=by simp [lastV]
def lastS (dn:List Value):Prop:=∀ y,dn.getLast?=some y→∃ a m c,y=.slice a m c
theorem lastS_snoc (dn:List Value) (a:Option Addr) (m c:Nat):lastS (dn++[.slice a m c]):=fun y h=>by
 rw [List.getLast?_concat] at h;cases h;exact ⟨_,_,_,rfl⟩
theorem lastS_out {dn:List Value} {y:Value} (h:lastS (dn++[y])):∃ a m c,y=.slice a m c:=h y List.getLast?_concat
theorem lastV_at {α:Type} {R:Value→α→Prop} {xs:List α} {a:α}:∀ {ys:List Value},All2 R ys (xs++[a])→R (lastV ys) a:=by
 intro ys h
 have hl:=h.length;rw [List.length_append,List.length_singleton] at hl;have h1:=h.get xs.length zC zL;have e:lastV ys=ys[xs.length]'zC:=by
  unfold lastV;rw [List.getLast?_eq_getElem?,show ys.length - 1=xs.length from by omega,List.getElem?_eq_getElem zC];rfl
 rw [e]
 simpa using h1
noncomputable def topX (key:List UInt8) (x:PrfT):List UInt8:=topT (shardOf key) (tx (wayOf key) x x.1.length)
def chkOk (z:Int) (key:List UInt8) (x:PrfT) (top:List UInt8):Prop:=begOk z key x∧shaSum (topX key x)=top
noncomputable instance (z:Int) (key:List UInt8) (x:PrfT) (top:List UInt8):Decidable (chkOk z key x top):=Classical.propDecidable _
set_option maxHeartbeats 1600000 in
theorem pCheck_b {r:Fr} {z:Int} {key top:List UInt8} {x:PrfT} {vt:Value} {a0 a1:Option Addr} {c0 c1:Nat} (k0:Arr (Rp.slice Rp.u8) r (.slice a0 x.1.length c0) x.1) (k1:Arr StubRp r (.slice a1 x.2.1.length c1) x.2.1) (hz:InI64 z) (ha:Arr Rp.u8 r vt top) (hxl:x.2.1.length≤1000000) (hb0:begOk z key x)
  (hH:At r ⟨0,0,none⟩ (w64s shaH)) (hK:At r ⟨1,0,none⟩ (w64s shaK)) :
  Con prog 71 #[.int .i64 z,vt,.string (str key),.agg #[.slice a0 x.1.length c0,.slice a1 x.2.1.length c1]] r []
   (Ret fun v η=>(shaSum (topX key x)=top∧∃ v',v=.tuple #[v',.int .i64 0]∧(saysP key x.2.1=[]→v' =.slice none 0 0)∧η=[OwnP Rp.u8 5 v' (saysP key x.2.1)])∨(shaSum (topX key x)≠top∧v=.tuple #[.slice none 0 0,.int .i64 23]∧η=[])):=by
 obtain ⟨h1,h2,h3,_⟩:=id hb0;have hs4:=shardOf_lt key;have hdb:decide (begOk z key x)=true:=by simpa using hb0
 have htl:=tx_len (way:=wayOf key) h1 hxl (j:=x.1.length) (Nat.le_refl _);have h2l:=h2.1;have hst:=h1.2.2.1;refine Con.of (n:=36) _ rfl func71 rfl rfl rfl fun g hg R hR=>?_;have k0:=k0.mono hg;have k1:=k1.mono hg;have ha:=ha.mono hg;have hH:=hH.mono hg;have hK:=hK.mono hg;refine S.seq<|S.region rfl<|O.opE (.p rfl) (.box (cs:=[_,_]) rfl rfl) ?_;rintro _ _ ⟨b7,rfl,rfl⟩;refine O.q 2 rfl<|O.nil<|S.seq<|S.objIs (b:=b7) (cs' :=[.slice a0 x.1.length c0,.slice a1 x.2.1.length c1]) zB rfl ?_;refine S.frzO zB fun g hs hm h7=>?_;replace hg:=Fr.sub_trans hg hs;replace hR:=melted hR hm
 try replace k0:=k0.mono hs
 try replace k1:=k1.mono hs
 try replace ha:=ha.mono hs
 try replace hH:=hH.mono hs
 try replace hK:=hK.mono hs
 clear hs hm;refine S.region rfl<|O.q 2 rfl<|O.op (.p rfl) (.loadAgg isAgg112 zD rfl h7) ?_;refine O.call0 (.p rfl) rfl zD rfl rfl ((begin_y k0 k1 hz h1 h2 h3 hH hK)) ?_;rintro _ _ ⟨b18,rfl,rfl⟩
 try simp only [zx1,zx2,zx3]
 rw [hdb];refine O.q 2 rfl<|O.slot 19 (v' :=.pointer (some ⟨b18,0,none⟩)) rfl zG ?_;refine O.q 1 rfl<|O.sT 20 rfl zG ?_;refine O.q 2 rfl<|O.nil<|S.seq<|S.seq<|S.region rfl<|O.q 1 rfl<|O.op (.p rfl) (.not rfl)<|O.nil<|S.condF rfl<|S.skip<|S.seq<|S.region rfl<|O.opE (.p rfl) (.alloc (cs:=[.slice none 0 0]) zeroValue24 rfl) ?_;rintro _ _ ⟨b12,rfl,rfl⟩;refine O.nil<|S.seq<|S.seq<|S.frz (A:=obj b18 281 (walkV a0 c0 a1 c1 z key x)) zB fun g hs hm ⟨_,x',s'⟩=>?_;have hb:=(fun s x=>(obj_at x).mono s) s' x';clear x' s';replace hg:=Fr.sub_trans hg hs;replace hR:=melted hR hm
 try replace k0:=k0.mono hs
 try replace k1:=k1.mono hs
 try replace ha:=ha.mono hs
 try replace hH:=hH.mono hs
 try replace hK:=hK.mono hs
 try replace h7:=h7.mono hs
 clear hs hm;refine S.region rfl<|O.q 1 rfl<|O.call0 (.p rfl) rfl zD rfl rfl (up_c) ?_;rintro _ _ ⟨b24,rfl,rfl⟩
 try simp only [zx1,zx2,zx3]
 refine O.nil<|S.frz (A:=obj b24 198 [.pointer (some ⟨b18,0,none⟩)]) zB fun g hs hm ⟨_,x',s'⟩=>?_;have hbw:=(fun s x=>(obj_at x).mono s) s' x';clear x' s';replace hg:=Fr.sub_trans hg hs;replace hR:=melted hR hm
 try replace k0:=k0.mono hs
 try replace k1:=k1.mono hs
 try replace ha:=ha.mono hs
 try replace hH:=hH.mono hs
 try replace hK:=hK.mono hs
 try replace h7:=h7.mono hs
 try replace hb:=hb.mono hs
 try replace hb:=hb.mono hs
 clear hs hm;rw [← h3] at hb;refine S.block<|S.rangeAnyD (psl:=[25]) (β:=Value) (χ:=Unit) (τ:=Unit) (vs:=fun y _=>[y]) (own:=fun _ _=>[]) (θ:=[]) (θ' :=fun ys=>[RowsP Rp.u8 5 ys (textsU (shardOf key) (wayOf key) x)]) lastS (fun _=>True) (fun dn _=>[obj b12 24 [lastV dn]]) () rfl zD rfl (fun _ _=>rfl) zD (fun l2 J2 hy2=>Con.mono (up1_c hbw hb k0 k1 h1 hxl hs4 hH hK (fun dn a m c _ _=>hy2 dn (.slice a m c) () (lastS_snoc dn a m c))) (Ret.imp fun _ _ ⟨vs,h⟩=>⟨vs,trivial,h⟩)) zJ (fun l D0 fid tm done y e t hpre g hgr R hR=>?_) (fun D0 t ys hfin=>?_)
 ·simp only [under,List.cons_append,List.nil_append]
  replace hg:=Fr.sub_trans hg hgr
  try replace k0:=k0.mono hgr
  try replace k1:=k1.mono hgr
  try replace ha:=ha.mono hgr
  try replace hH:=hH.mono hgr
  try replace hK:=hK.mono hgr
  try replace h7:=h7.mono hgr
  try replace hb:=hb.mono hgr
  try replace hb:=hb.mono hgr
  try replace hbw:=hbw.mono hgr
  try replace hbw:=hbw.mono hgr
  obtain ⟨a',m',c',rfl⟩:=lastS_out hpre;refine S.region rfl<|O.q 1 rfl<|O.nil<|S.beginRound zB rfl<|S.block<|S.region rfl<|O.q 1 rfl<|O.opU rfl (.store1 flat24 rfl rfl zN zB zH) ?_;refine O.nil<|S.inBlock<|S.objIs (b:=b12) (cs' :=[lastV (done++[.slice a' m' c'])]) zB (by rw [lastV_snoc];rfl) ?_;refine S.roundEnd zB fun w hw=>hR () w ?_;exact hw.picks zQ
 ·simp only [zx1,zx2,zx3]
  refine S.frz (A:=RowsP Rp.u8 5 ys (textsU (shardOf key) (wayOf key) x)) zB fun g hs hm ⟨_,x',s'⟩=>?_;have hr:=(fun s x=>x.all2 (fun _ _ _ y z=>y.arr.mono z) s) s' x';clear x' s';replace hg:=Fr.sub_trans hg hs;replace hR:=melted hR hm
  try replace k0:=k0.mono hs
  try replace k1:=k1.mono hs
  try replace ha:=ha.mono hs
  try replace hH:=hH.mono hs
  try replace hK:=hK.mono hs
  try replace h7:=h7.mono hs
  try replace hb:=hb.mono hs
  try replace hb:=hb.mono hs
  try replace hbw:=hbw.mono hs
  try replace hbw:=hbw.mono hs
  clear hs hm;have hla:=lastV_at (R:=fun b xs=>Arr Rp.u8 g.h b xs) hr;clear hr;obtain ⟨al,cl,hle⟩:=hla.shape;have htx:=topT_len (shardOf key) (tx (wayOf key) x x.1.length);rw [hle] at hla;have e12:lastV ys=.slice al (topX key x).length cl:=hle
  by_cases hq:shaSum (topX key x)=top
  ·
   refine S.objIs (b:=b12) (cs' :=[.slice al (topX key x).length cl]) zB (by rw [e12]) ?_;refine S.inBlock<|S.seq<|S.seq<|S.region rfl<|O.op (.p rfl) (.lo flat24) ?_;refine O.opE (.p rfl) (.litP (T:=Rp.cells 1) (ys:=[[.slice al (topX key x).length cl]]) underlying109 elem24 zF rfl rfl ⟨⟨rfl,rfl,by first|(simp;done)|(intro v hv;simp [Value.cells] at hv;rcases hv with rfl|rfl<;>rfl)|(refine List.forall_mem_cons.2 ⟨rfl,?_⟩;repeat (first|exact (fun _ h=>absurd h List.not_mem_nil)|refine List.forall_mem_cons.2 ⟨rfl,?_⟩))⟩,trivial⟩ zF) ?_;rintro _ _ ⟨a28,c28,rfl,rfl⟩;refine O.callB (.p rfl) rfl zD rfl rfl (bs:=[OwnP (Rp.cells 1) 24 (.slice a28 1 c28) [[.slice al (topX key x).length cl]]]) zJ (fun m hm hd=>shaSum_c (ps:=[topX key x]) (one_rowA hla hm hd) (hH.mono (Fr.sub_add_left _ _)) (hK.mono (Fr.sub_add_left _ _)) (by simp [topX,htx])) ?_;rintro _ _ ⟨a29,c29,rfl,rfl⟩
   try simp only [zx1,zx2,zx3]
   rw [flat_1];refine O.q 1 rfl<|O.callB (.p rfl) rfl zD rfl rfl (bs:=[OwnP Rp.u8 5 (.slice a29 64 c29) (shaSum (topX key x))]) zJ (fun m hm hd=>bequal_c (hm.arr.right hd) ((by first|assumption|exact Arr.mono hg zE|exact Arr.left zE|exact Arr.left (Arr.mono hg zE):Arr Rp.u8 g.h vt top).mono (Fr.sub_add_left _ _))) ?_;rintro _ _ ⟨rfl,rfl⟩
   try simp only [zx1,zx2,zx3]
   refine O.op (.p rfl) ((by first|exact .notD rfl|exact .not rfl)) ?_;refine O.sF 32 rfl (by simpa using hq) ?_;refine O.nil<|S.condF rfl<|S.skip<|S.seq<|S.region rfl<|O.q 2 rfl<|O.call0 (.p rfl) rfl zD rfl rfl ((pSays_c hb k1 hst)) ?_;rintro v35 _ ⟨v35,rfl,hv35,rfl⟩
   try simp only [zx1,zx2,zx3]
   refine O.q 2 rfl<|O.nil<|S.retM2 (.inr ⟨_,rfl⟩) (.cons zB .nil) results71 (.tmp rfl) (.tmp rfl) fun w hw=>?_;exact Holds.end_ hR hw ⟨_,.inl ⟨hq,_,rfl,hv35,rfl⟩,by repeat (first|exact zpa|exact zpn|(apply zpc;focus (repeat (first|exact zh|apply zt)))|apply zps)⟩
  ·
   refine S.objIs (b:=b12) (cs' :=[.slice al (topX key x).length cl]) zB (by rw [e12]) ?_;refine S.inBlock<|S.seq<|S.seq<|S.region rfl<|O.op (.p rfl) (.lo flat24) ?_;refine O.opE (.p rfl) (.litP (T:=Rp.cells 1) (ys:=[[.slice al (topX key x).length cl]]) underlying109 elem24 zF rfl rfl ⟨⟨rfl,rfl,by first|(simp;done)|(intro v hv;simp [Value.cells] at hv;rcases hv with rfl|rfl<;>rfl)|(refine List.forall_mem_cons.2 ⟨rfl,?_⟩;repeat (first|exact (fun _ h=>absurd h List.not_mem_nil)|refine List.forall_mem_cons.2 ⟨rfl,?_⟩))⟩,trivial⟩ zF) ?_;rintro _ _ ⟨a28,c28,rfl,rfl⟩;refine O.callB (.p rfl) rfl zD rfl rfl (bs:=[OwnP (Rp.cells 1) 24 (.slice a28 1 c28) [[.slice al (topX key x).length cl]]]) zJ (fun m hm hd=>shaSum_c (ps:=[topX key x]) (one_rowA hla hm hd) (hH.mono (Fr.sub_add_left _ _)) (hK.mono (Fr.sub_add_left _ _)) (by simp [topX,htx])) ?_;rintro _ _ ⟨a29,c29,rfl,rfl⟩
   try simp only [zx1,zx2,zx3]
   rw [flat_1];refine O.q 1 rfl<|O.callB (.p rfl) rfl zD rfl rfl (bs:=[OwnP Rp.u8 5 (.slice a29 64 c29) (shaSum (topX key x))]) zJ (fun m hm hd=>bequal_c (hm.arr.right hd) ((by first|assumption|exact Arr.mono hg zE|exact Arr.left zE|exact Arr.left (Arr.mono hg zE):Arr Rp.u8 g.h vt top).mono (Fr.sub_add_left _ _))) ?_;rintro _ _ ⟨rfl,rfl⟩
   try simp only [zx1,zx2,zx3]
   refine O.op (.p rfl) ((by first|exact .notD rfl|exact .not rfl)) ?_;refine O.sT 32 rfl (by simpa using hq) ?_;refine O.nil<|S.condT rfl<|S.seq<|S.region rfl<|O.q 2 rfl<|O.nil<|S.retM2 (.inr ⟨_,rfl⟩) (.cons zB .nil) results71 (.tmp rfl) (.tmp rfl) fun w hw=>?_;exact Holds.end_ hR hw ⟨_,.inr ⟨hq,rfl,rfl⟩,by repeat (first|exact zpa|exact zpn|(apply zpc;focus (repeat (first|exact zh|apply zt)))|apply zps)⟩
theorem pCheck_a {r:Fr} {z:Int} {key top:List UInt8} {x:PrfT} {vt:Value} {a0 a1:Option Addr} {c0 c1:Nat} (k0:Arr (Rp.slice Rp.u8) r (.slice a0 x.1.length c0) x.1) (k1:Arr StubRp r (.slice a1 x.2.1.length c1) x.2.1) (hz:InI64 z) (ha:Arr Rp.u8 r vt top) (hxl:x.2.1.length≤1000000) (hkl:key.length≤10000000000) (hb0:¬ begOk z key x)
  (hH:At r ⟨0,0,none⟩ (w64s shaH)) (hK:At r ⟨1,0,none⟩ (w64s shaK)) :
  Con prog 71 #[.int .i64 z,vt,.string (str key),.agg #[.slice a0 x.1.length c0,.slice a1 x.2.1.length c1]] r []
   (Ret fun v η=>v=.tuple #[.slice none 0 0,.int .i64 23]∧η=[]):=by
 refine Con.of (n:=36) _ rfl func71 rfl rfl rfl fun g hg R hR=>?_;have k0:=k0.mono hg;have k1:=k1.mono hg;have ha:=ha.mono hg;have hH:=hH.mono hg;have hK:=hK.mono hg
 by_cases h:prfOk x∧keyOk key∧(shardOf key:Int)=z
 ·obtain ⟨h1,h2,h3⟩:=h
  have hdb:decide (begOk z key x)=false:=by simpa using hb0
  refine S.seq<|S.region rfl<|O.opE (.p rfl) (.box (cs:=[_,_]) rfl rfl) ?_;rintro _ _ ⟨b7,rfl,rfl⟩;refine O.q 2 rfl<|O.nil<|S.seq<|S.objIs (b:=b7) (cs' :=[.slice a0 x.1.length c0,.slice a1 x.2.1.length c1]) zB rfl ?_;refine S.frzO zB fun g hs hm h7=>?_;replace hg:=Fr.sub_trans hg hs;replace hR:=melted hR hm
  try replace k0:=k0.mono hs
  try replace k1:=k1.mono hs
  try replace ha:=ha.mono hs
  try replace hH:=hH.mono hs
  try replace hK:=hK.mono hs
  clear hs hm;refine S.region rfl<|O.q 2 rfl<|O.op (.p rfl) (.loadAgg isAgg112 zD rfl h7) ?_;refine O.call0 (.p rfl) rfl zD rfl rfl ((begin_y k0 k1 hz h1 h2 h3 hH hK)) ?_;rintro _ _ ⟨b18,rfl,rfl⟩
  try simp only [zx1,zx2,zx3]
  rw [hdb];refine O.q 2 rfl<|O.slot 19 (v' :=.pointer (some ⟨b18,0,none⟩)) rfl zG ?_;refine O.q 1 rfl<|O.sF 20 rfl zG ?_;refine O.q 2 rfl<|O.nil<|S.seq<|S.seq<|S.region rfl<|O.q 1 rfl<|O.op (.p rfl) (.not rfl)<|O.nil<|S.condT rfl<|S.seq<|S.region rfl<|O.q 2 rfl<|O.nil<|S.ret2 results71 rfl rfl fun w hw=>Holds.end_ hR hw ?_;exact pk ⟨rfl,rfl⟩
 ·
  refine S.seq<|S.region rfl<|O.opE (.p rfl) (.box (cs:=[_,_]) rfl rfl) ?_;rintro _ _ ⟨b7,rfl,rfl⟩;refine O.q 2 rfl<|O.nil<|S.seq<|S.objIs (b:=b7) (cs' :=[.slice a0 x.1.length c0,.slice a1 x.2.1.length c1]) zB rfl ?_;refine S.frzO zB fun g hs hm h7=>?_;replace hg:=Fr.sub_trans hg hs;replace hR:=melted hR hm
  try replace k0:=k0.mono hs
  try replace k1:=k1.mono hs
  try replace ha:=ha.mono hs
  try replace hH:=hH.mono hs
  try replace hK:=hK.mono hs
  clear hs hm;refine S.region rfl<|O.q 2 rfl<|O.op (.p rfl) (.loadAgg isAgg112 zD rfl h7) ?_;refine O.call0 (.p rfl) rfl zD rfl rfl ((begin_n k0 k1 hkl h hH hK)) ?_;rintro _ _ ⟨rfl,rfl⟩
  try simp only [zx1,zx2,zx3]
  refine O.q 2 rfl<|O.slot 19 (v' :=.pointer none) rfl zG ?_;refine O.q 1 rfl<|O.sF 20 rfl zG ?_;refine O.q 2 rfl<|O.nil<|S.seq<|S.seq<|S.region rfl<|O.q 1 rfl<|O.op (.p rfl) (.not rfl)<|O.nil<|S.condT rfl<|S.seq<|S.region rfl<|O.q 2 rfl<|O.nil<|S.ret2 results71 rfl rfl fun w hw=>Holds.end_ hR hw ?_;exact pk ⟨rfl,rfl⟩
def ChkR (z:Int) (key:List UInt8) (x:PrfT) (top:List UInt8) (e:TypeId) (v:Value) (η:List SProp):Prop :=
 (chkOk z key x top∧∃ v',v=.tuple #[v',.int .i64 0]∧(saysP key x.2.1=[]→v' =.slice none 0 0)∧η=[OwnP Rp.u8 e v' (saysP key x.2.1)])∨(¬ chkOk z key x top∧v=.tuple #[.slice none 0 0,.int .i64 23]∧η=[])
theorem pCheck_c {r:Fr} {z:Int} {key top:List UInt8} {x:PrfT} {vt:Value} {a0 a1:Option Addr} {c0 c1:Nat} (k0:Arr (Rp.slice Rp.u8) r (.slice a0 x.1.length c0) x.1) (k1:Arr StubRp r (.slice a1 x.2.1.length c1) x.2.1) (hz:InI64 z) (ha:Arr Rp.u8 r vt top) (hxl:x.2.1.length≤1000000) (hkl:key.length≤10000000000)
  (hH:At r ⟨0,0,none⟩ (w64s shaH)) (hK:At r ⟨1,0,none⟩ (w64s shaK)) :
  Con prog 71 #[.int .i64 z,vt,.string (str key),.agg #[.slice a0 x.1.length c0,.slice a1 x.2.1.length c1]] r [] (Ret (ChkR z key x top 5)):=by
 by_cases hb:begOk z key x
 ·refine Con.mono (pCheck_b k0 k1 hz ha hxl hb hH hK) (Ret.imp fun v η h=>?_)
  rcases h with ⟨h1,h2⟩|⟨h1,h2⟩
  ·exact .inl ⟨⟨hb,h1⟩,h2⟩
  ·exact .inr ⟨fun h=>h1 h.2,h2⟩
 ·exact Con.mono (pCheck_a k0 k1 hz ha hxl hkl hb hH hK) (Ret.imp fun v η h=>.inr ⟨fun w=>hb w.1,h⟩)
theorem flat_5 (s:List UInt8):[[5],s].flatten=5::s:=by simp
theorem texts1_c {r:Fr} {l bb bw b n:Nat} {key sb:List UInt8} {x:PrfT} {a2 a0 a1:Option Addr} {c2 c0 c1:Nat} {J:List Value→SProp} (hbb:At r ⟨bb,0,none⟩ [.slice a2 sb.length c2]) (hsb:Arr Rp.u8 r (.slice a2 sb.length c2) sb) (hsl:sb.length≤100000000) (hbw:At r ⟨bw,0,none⟩ [.pointer (some ⟨b,0,none⟩)]) (hb:At r ⟨b,0,none⟩ (walkV a0 c0 a1 c1 (n:Int) key x)) (k0:Arr (Rp.slice Rp.u8) r (.slice a0 x.1.length c0) x.1) (k1:Arr StubRp r (.slice a1 x.2.1.length c1) x.2.1)
  (hok:prfOk x) (hxl:x.2.1.length≤1000000) (hn:n<4) (hH:At r ⟨0,0,none⟩ (w64s shaH)) (hK:At r ⟨1,0,none⟩ (w64s shaK))
  (hy:∀ done (a:Option Addr) (m c:Nat),m≤200000000→done.length≤700→YCon prog l #[.slice a m c] r [J done] (Ret fun u η=>u=.bool true∧η=[J (done++[.slice a m c])])) :
  Con prog 133 #[yieldV l,.pointer (some ⟨bb,0,none⟩),.pointer (some ⟨bw,0,none⟩)] r [J []] (Ret fun _ η=>∃ vs,η=[RowsP Rp.u8 5 vs ((5::sb)::textsU n (wayOf key) x),J vs]):=by
 refine Con.of (n:=14) _ rfl func133 rfl rfl rfl fun g hg R hR=>?_;have hbb:=hbb.mono hg;have hsb:=hsb.mono hg;have hbw:=hbw.mono hg;have hb:=hb.mono hg;have k0:=k0.mono hg;have k1:=k1.mono hg;have hH:=hH.mono hg;have hK:=hK.mono hg;refine S.seq<|S.region rfl<|O.q 1 rfl<|O.opE (.p rfl) (.litP (T:=Rp.u8) (ys:=[5]) underlying24 elem5 zF rfl rfl ⟨rfl,trivial⟩ zF) ?_;rintro _ _ ⟨a5,c5,rfl,rfl⟩;refine O.op (.p rfl) (.loadAt flat24 rfl hbb rfl) ?_;refine O.opE (.p rfl) (.litP (T:=Rp.val) (ys:=[.slice a5 1 c5,.slice a2 sb.length c2]) underlying109 elem24 zF rfl rfl ⟨⟨rfl,rfl⟩,⟨rfl,rfl⟩,trivial⟩ zF) ?_;rintro _ _ ⟨a7,c7,rfl,rfl⟩;refine O.callB (.p rfl) rfl zD rfl rfl (bs:=[OwnP Rp.val 24 (.slice a7 2 c7) [.slice a5 1 c5,.slice a2 sb.length c2],OwnP Rp.u8 5 (.slice a5 1 c5) [5]]) zJ (fun m hm hd=>wJoin_c (xss:=[[5],sb]) ((hm.arr.right hd).rows ⟨hm.tail.arr.right hd,(Arr.mono (Fr.sub_add_left _ _) (by first|assumption|exact Arr.mono hg zE|exact Arr.left zE|exact Arr.left (Arr.mono hg zE))),trivial⟩) zK) ?_;rintro _ _ ⟨a8,c8,rfl,rfl⟩
 try simp only [zx1,zx2,zx3]
 refine O.yieldSs (.p rfl) rfl rfl rfl zJ ((hy [] a8 ([[5],sb].flatten).length c8 zK zL).sub hg) ?_;rintro _ _ ⟨rfl,rfl⟩;refine O.nil<|S.condT rfl<|S.region rfl<|O.op (.p rfl) (.loadAt flat198 rfl hbw rfl) ?_;refine O.call0 (.p rfl) rfl zD rfl rfl (up_c) ?_;rintro _ _ ⟨b11,rfl,rfl⟩
 try simp only [zx1,zx2,zx3]
 refine O.q 1 rfl<|O.frz (A:=obj b11 198 [.pointer (some ⟨b,0,none⟩)]) zB fun g hs hm ⟨_,x',s'⟩=>?_;have hb11:=(fun s x=>(obj_at x).mono s) s' x';clear x' s';replace hg:=Fr.sub_trans hg hs;replace hR:=melted hR hm
 try replace hbb:=hbb.mono hs
 try replace hsb:=hsb.mono hs
 try replace hbw:=hbw.mono hs
 try replace hb:=hb.mono hs
 try replace k0:=k0.mono hs
 try replace k1:=k1.mono hs
 try replace hH:=hH.mono hs
 try replace hK:=hK.mono hs
 clear hs hm;refine O.callSs (.p rfl) rfl zD rfl rfl zJ (up1_c (J:=fun d=>J (.slice a8 ([[5],sb].flatten).length c8::d)) hb11 hb k0 k1 hok hxl hn hH hK (fun dn a m c h1 h2=>(hy (.slice a8 ([[5],sb].flatten).length c8::dn) a m c h1 (by rw [List.length_cons];omega)).sub hg)) ?_;rintro v13 _ ⟨vs,rfl⟩
 try simp only [zx1,zx2,zx3]
 refine O.nil ?_;have e5:[[5],sb].flatten=5::sb:=flat_5 sb;refine S.each0 (OwnP Rp.u8 5) ?_;refine S.each (A:=OwnP Rp.u8 5) (b:=.slice a8 ([[5],sb].flatten).length c8) (a:=[[5],sb].flatten) zB zB ?_;simp only [List.nil_append];refine S.foldS (A:=RowsP Rp.u8 5 ([.slice a8 ([[5],sb].flatten).length c8]++vs) ([5::sb]++textsU n (wayOf key) x)) (bs:=[RowsP Rp.u8 5 [.slice a8 ([[5],sb].flatten).length c8] [[[5],sb].flatten],RowsP Rp.u8 5 vs (textsU n (wayOf key) x)]) zJ (fun m h=>by rw [← e5];exact EachP.app h) ?_;refine S.end0 results133 fun w hw=>Holds.end_ hR hw ?_;exact pk ⟨_,rfl⟩
theorem appendTexts_c {r:Fr} {bb bw b n:Nat} {key sb:List UInt8} {x:PrfT} {a2 a0 a1:Option Addr} {c2 c0 c1:Nat} (hbb:At r ⟨bb,0,none⟩ [.slice a2 sb.length c2]) (hsb:Arr Rp.u8 r (.slice a2 sb.length c2) sb) (hsl:sb.length≤100000000) (hbw:At r ⟨bw,0,none⟩ [.pointer (some ⟨b,0,none⟩)]) (hb:At r ⟨b,0,none⟩ (walkV a0 c0 a1 c1 (n:Int) key x)) (k0:Arr (Rp.slice Rp.u8) r (.slice a0 x.1.length c0) x.1) (k1:Arr StubRp r (.slice a1 x.2.1.length c1) x.2.1)
  (hok:prfOk x) (hxl:x.2.1.length≤1000000) (hn:n<4) (hH:At r ⟨0,0,none⟩ (w64s shaH)) (hK:At r ⟨1,0,none⟩ (w64s shaK)) :
  Con prog 215 #[.slice none 0 0,.func (.func 133) #[] #[.pointer (some ⟨bb,0,none⟩),.pointer (some ⟨bw,0,none⟩)]] r []
   (Ret fun v η=>∃ vs a c,v=.slice a vs.length c∧η=[OwnP Rp.val 24 (.slice a vs.length c) vs,RowsP Rp.u8 5 vs ((5::sb)::textsU n (wayOf key) x)]):=by
 refine Con.of (n:=13) _ rfl func215 rfl rfl rfl fun g hg R hR=>?_;have hbb:=hbb.mono hg;have hsb:=hsb.mono hg;have hbw:=hbw.mono hg;have hb:=hb.mono hg;have k0:=k0.mono hg;have k1:=k1.mono hg;have hH:=hH.mono hg;have hK:=hK.mono hg;refine S.seq<|S.region rfl<|O.opE (.p rfl) (.box (cs:=[_]) rfl rfl) ?_;rintro _ _ ⟨b2,rfl,rfl⟩;refine O.q 1 rfl<|O.nil<|S.seq<|S.seq<|S.region rfl<|O.q 1 rfl<|O.nil<|S.block<|S.addNil (T:=Rp.val) (e:=24) ?_;refine S.rangeAnyD (psl:=[7]) (β:=Value) (χ:=Unit) (τ:=Option Addr × Nat) (vs:=fun y _=>[y]) (own:=fun _ _=>[]) (θ:=[]) (θ' :=fun ys=>[RowsP Rp.u8 5 ys ((5::sb)::textsU n (wayOf key) x)]) (fun dn=>lastS dn∧dn.length≤701) (fun _=>True) (fun dn t=>[obj b2 109 [.slice t.1 dn.length t.2],OwnP Rp.val 24 (.slice t.1 dn.length t.2) dn]) (none,0) rfl zD rfl (fun _ _=>rfl) zD (fun l2 J2 hy2=>Con.mono (texts1_c hbb hsb hsl hbw hb k0 k1 hok hxl hn hH hK (fun dn a m c _ hd=>hy2 dn (.slice a m c) () ⟨lastS_snoc dn a m c,by rw [List.length_append,List.length_singleton];omega⟩)) (Ret.imp fun _ _ ⟨vs,h⟩=>⟨vs,trivial,h⟩)) zJ (fun l D0 fid tm done y e t hpre g hgr R hR=>?_) (fun D0 t ys hfin=>?_)
 ·simp only [under,List.cons_append,List.nil_append]
  replace hg:=Fr.sub_trans hg hgr
  try replace hbb:=hbb.mono hgr
  try replace hsb:=hsb.mono hgr
  try replace hbw:=hbw.mono hgr
  try replace hb:=hb.mono hgr
  try replace k0:=k0.mono hgr
  try replace k1:=k1.mono hgr
  try replace hH:=hH.mono hgr
  try replace hK:=hK.mono hgr
  obtain ⟨a',m',c',rfl⟩:=lastS_out hpre.1;have hdl:=hpre.2;rw [List.length_append,List.length_singleton] at hdl;refine S.region rfl<|O.q 1 rfl<|O.nil<|S.beginRound zB rfl<|S.block<|S.region rfl<|O.op (.p rfl) (.lo flat109) ?_;refine O.q 1 rfl<|O.opE (.p rfl) (.litP (T:=Rp.val) (ys:=[.slice a' m' c']) underlying109 elem24 zF rfl rfl ⟨⟨rfl,rfl⟩,trivial⟩ zF) ?_;rintro _ _ ⟨a10,c10,rfl,rfl⟩;refine O.opE (.p rfl) (.appendO (T:=Rp.val) (ys:=[.slice a' m' c']) underlying109 elem24 zF rfl rfl zB zB zK zK) ?_;rintro _ _ ⟨a11,c11,rfl,rfl⟩;refine O.opU rfl (.store1 flat109 rfl rfl zN zB zH) ?_;refine O.nil<|S.inBlock<|S.roundEnd zB fun w hw=>hR (a11,c11) w ?_;simp only [List.length_append,List.length_singleton];exact hw.picks zQ
 ·simp only [zx1,zx2,zx3]
  refine S.inBlock<|S.seq<|S.region rfl<|O.op (.p rfl) (.lo flat109) ?_;refine O.q 1 rfl<|O.nil<|S.retM1 (.inr ⟨_,rfl⟩) (.cons zB .nil) results215 (.tmp rfl) fun w hw=>?_;exact Holds.end_ hR hw ⟨_,⟨ys,_,_,rfl,rfl⟩,by repeat (first|exact zpa|exact zpn|(apply zpc;focus (repeat (first|exact zh|apply zt)))|apply zps)⟩
theorem collectTexts_c {r:Fr} {bb bw b n:Nat} {key sb:List UInt8} {x:PrfT} {a2 a0 a1:Option Addr} {c2 c0 c1:Nat} (hbb:At r ⟨bb,0,none⟩ [.slice a2 sb.length c2]) (hsb:Arr Rp.u8 r (.slice a2 sb.length c2) sb) (hsl:sb.length≤100000000) (hbw:At r ⟨bw,0,none⟩ [.pointer (some ⟨b,0,none⟩)]) (hb:At r ⟨b,0,none⟩ (walkV a0 c0 a1 c1 (n:Int) key x)) (k0:Arr (Rp.slice Rp.u8) r (.slice a0 x.1.length c0) x.1) (k1:Arr StubRp r (.slice a1 x.2.1.length c1) x.2.1)
  (hok:prfOk x) (hxl:x.2.1.length≤1000000) (hn:n<4) (hH:At r ⟨0,0,none⟩ (w64s shaH)) (hK:At r ⟨1,0,none⟩ (w64s shaK)) :
  Con prog 132 #[.func (.func 133) #[] #[.pointer (some ⟨bb,0,none⟩),.pointer (some ⟨bw,0,none⟩)]] r []
   (Ret fun v η=>∃ vs a c,v=.slice a vs.length c∧η=[OwnP Rp.val 24 (.slice a vs.length c) vs,RowsP Rp.u8 5 vs ((5::sb)::textsU n (wayOf key) x)]):=by
 refine Con.of (n:=5) _ rfl func132 rfl rfl rfl fun g hg R hR=>?_;have hbb:=hbb.mono hg;have hsb:=hsb.mono hg;have hbw:=hbw.mono hg;have hb:=hb.mono hg;have k0:=k0.mono hg;have k1:=k1.mono hg;have hH:=hH.mono hg;have hK:=hK.mono hg;refine S.seq<|S.region rfl<|O.q 1 rfl<|O.nil<|S.seq<|S.region rfl<|O.q 1 rfl<|O.call0 (.p rfl) rfl zD rfl rfl ((appendTexts_c hbb hsb hsl hbw hb k0 k1 hok hxl hn hH hK)) ?_;rintro _ _ ⟨vs,a4,c4,rfl,rfl⟩
 try simp only [zx1,zx2,zx3]
 refine O.q 1 rfl<|O.nil ?_;exact S.rt results132 rfl hR ⟨vs,_,_,rfl,rfl⟩
def txtOk (z:Int) (key:List UInt8) (x:PrfT) (xs:List RecT):Prop:=begOk z key x∧sErr xs=0
noncomputable instance (z:Int) (key:List UInt8) (x:PrfT) (xs:List RecT):Decidable (txtOk z key x xs):=Classical.propDecidable _
noncomputable def textsL (z:Int) (key:List UInt8) (x:PrfT) (xs:List RecT):List (List UInt8):=if txtOk z key x xs then (5::sOut xs)::textsU (shardOf key) (wayOf key) x else []
abbrev TextsR (e e' :TypeId) (l:List (List UInt8)) (v:Value) (η:List SProp):Prop:=∃ vs a c,vs.length=l.length∧v=.slice a l.length c∧η=[OwnP Rp.val e (.slice a l.length c) vs,RowsP Rp.u8 e' vs l]
theorem pTexts_b {r:Fr} {z:Int} {key:List UInt8} {x:PrfT} {xs:List RecT} {vs:Value} {a0 a1:Option Addr} {c0 c1:Nat} (k0:Arr (Rp.slice Rp.u8) r (.slice a0 x.1.length c0) x.1) (k1:Arr StubRp r (.slice a1 x.2.1.length c1) x.2.1) (hz:InI64 z) (ha:Arr RecRp r vs xs) (hl:xs.length≤1000000000) (hsl:(sOut xs).length≤100000000) (hxl:x.2.1.length≤1000000) (hb0:txtOk z key x xs)
  (hH:At r ⟨0,0,none⟩ (w64s shaH)) (hK:At r ⟨1,0,none⟩ (w64s shaK)) :
  Con prog 70 #[.int .i64 z,.string (str key),.agg #[.slice a0 x.1.length c0,.slice a1 x.2.1.length c1],vs] r [] (Ret fun v η=>∃ vs a c,v=.slice a vs.length c∧η=[OwnP Rp.val 24 (.slice a vs.length c) vs,RowsP Rp.u8 5 vs ((5::sOut xs)::textsU (shardOf key) (wayOf key) x)]):=by
 obtain ⟨hb1,he⟩:=hb0;obtain ⟨h1,h2,h3,_⟩:=id hb1;have hs4:=shardOf_lt key;have hdb:decide (begOk z key x)=true:=by simpa using hb1
 refine Con.of (n:=33) _ rfl func70 rfl rfl rfl fun g hg R hR=>?_;have k0:=k0.mono hg;have k1:=k1.mono hg;have ha:=ha.mono hg;have hH:=hH.mono hg;have hK:=hK.mono hg;refine S.seq<|S.region rfl<|O.opE (.p rfl) (.box (cs:=[_,_]) rfl rfl) ?_;rintro _ _ ⟨b6,rfl,rfl⟩;refine O.q 1 rfl<|O.nil<|S.seq<|S.objIs (b:=b6) (cs' :=[.slice a0 x.1.length c0,.slice a1 x.2.1.length c1]) zB rfl ?_;refine S.frzO zB fun g hs hm h6=>?_;replace hg:=Fr.sub_trans hg hs;replace hR:=melted hR hm
 try replace k0:=k0.mono hs
 try replace k1:=k1.mono hs
 try replace ha:=ha.mono hs
 try replace hH:=hH.mono hs
 try replace hK:=hK.mono hs
 clear hs hm;refine S.region rfl<|O.q 2 rfl<|O.op (.p rfl) (.loadAgg isAgg112 zD rfl h6) ?_;refine O.call0 (.p rfl) rfl zD rfl rfl ((begin_y k0 k1 hz h1 h2 h3 hH hK)) ?_;rintro _ _ ⟨b17,rfl,rfl⟩
 try simp only [zx1,zx2,zx3]
 rw [hdb];refine O.q 2 rfl<|O.slot 18 (v' :=.pointer (some ⟨b17,0,none⟩)) rfl zG ?_;refine O.q 1 rfl<|O.sT 19 rfl zG ?_;refine O.opE (.p rfl) (.alloc (cs:=[.pointer none]) zeroValue198 rfl) ?_;rintro _ _ ⟨b9,rfl,rfl⟩;refine O.opU rfl (.store1 flat198 rfl rfl zN zB zH) ?_;refine O.q 1 rfl<|O.nil<|S.seq<|S.region rfl<|O.q 1 rfl<|O.call0 (.p rfl) rfl zD rfl rfl ((sPut_c (by first|assumption|exact Arr.mono hg zE|exact Arr.left zE|exact Arr.left (Arr.mono hg zE)) hl)) ?_;rintro _ _ ⟨a22,c22,rfl,rfl⟩
 try simp only [zx1,zx2,zx3]
 rw [he];refine O.q 2 rfl<|O.slot 23 (v' :=.slice a22 (sOut xs).length c22) rfl zG ?_;refine O.q 1 rfl<|O.slot 24 (v' :=.int .i64 0) rfl zG ?_;refine O.opE (.p rfl) (.alloc (cs:=[.slice none 0 0]) zeroValue24 rfl) ?_;rintro _ _ ⟨b11,rfl,rfl⟩;refine O.opU rfl (.store1 flat24 rfl rfl zN zB zH) ?_;refine O.q 1 rfl<|O.nil<|S.seq<|S.seq<|S.region rfl<|O.q 1 rfl<|O.op (.p rfl) (.not rfl)<|O.q 2 rfl<|O.op (.g rfl rfl) (.neq rfl rfl)<|O.sF 29 rfl zG ?_;refine O.q 1 rfl<|O.nil<|S.condF rfl<|S.skip<|S.seq<|S.frz (A:=obj b17 281 (walkV a0 c0 a1 c1 z key x)) zB fun g hs hm ⟨_,x',s'⟩=>?_;have hb:=(fun s x=>(obj_at x).mono s) s' x';clear x' s';replace hg:=Fr.sub_trans hg hs;replace hR:=melted hR hm
 try replace k0:=k0.mono hs
 try replace k1:=k1.mono hs
 try replace ha:=ha.mono hs
 try replace hH:=hH.mono hs
 try replace hK:=hK.mono hs
 try replace h6:=h6.mono hs
 clear hs hm;rw [← h3] at hb;refine S.frz (A:=obj b9 198 [.pointer (some ⟨b17,0,none⟩)]) zB fun g hs hm ⟨_,x',s'⟩=>?_;have hb9:=(fun s x=>(obj_at x).mono s) s' x';clear x' s';replace hg:=Fr.sub_trans hg hs;replace hR:=melted hR hm
 try replace k0:=k0.mono hs
 try replace k1:=k1.mono hs
 try replace ha:=ha.mono hs
 try replace hH:=hH.mono hs
 try replace hK:=hK.mono hs
 try replace h6:=h6.mono hs
 try replace hb:=hb.mono hs
 try replace hb:=hb.mono hs
 clear hs hm;refine S.frz (A:=obj b11 24 [.slice a22 (sOut xs).length c22]) zB fun g hs hm ⟨_,x',s'⟩=>?_;have hb11:=(fun s x=>(obj_at x).mono s) s' x';clear x' s';replace hg:=Fr.sub_trans hg hs;replace hR:=melted hR hm
 try replace k0:=k0.mono hs
 try replace k1:=k1.mono hs
 try replace ha:=ha.mono hs
 try replace hH:=hH.mono hs
 try replace hK:=hK.mono hs
 try replace h6:=h6.mono hs
 try replace hb:=hb.mono hs
 try replace hb:=hb.mono hs
 try replace hb9:=hb9.mono hs
 try replace hb9:=hb9.mono hs
 clear hs hm;refine S.frz (A:=OwnP Rp.u8 5 (.slice a22 (sOut xs).length c22) (sOut xs)) zB fun g hs hm ⟨_,x',s'⟩=>?_;have hsb:=(fun s x=>x.arr.mono s) s' x';clear x' s';replace hg:=Fr.sub_trans hg hs;replace hR:=melted hR hm
 try replace k0:=k0.mono hs
 try replace k1:=k1.mono hs
 try replace ha:=ha.mono hs
 try replace hH:=hH.mono hs
 try replace hK:=hK.mono hs
 try replace h6:=h6.mono hs
 try replace hb:=hb.mono hs
 try replace hb:=hb.mono hs
 try replace hb9:=hb9.mono hs
 try replace hb9:=hb9.mono hs
 try replace hb11:=hb11.mono hs
 try replace hb11:=hb11.mono hs
 clear hs hm;refine S.region rfl<|O.op (.p rfl) (.mkFunc rfl rfl)<|O.call0 (.p rfl) rfl zD rfl rfl ((collectTexts_c hb11 hsb hsl hb9 hb k0 k1 h1 hxl hs4 hH hK)) ?_;rintro _ _ ⟨ws,a32,c32,rfl,rfl⟩
 try simp only [zx1,zx2,zx3]
 refine O.q 1 rfl<|O.nil ?_;exact S.rt results70 rfl hR ⟨ws,_,_,rfl,rfl⟩
theorem pTexts_a {r:Fr} {z:Int} {key:List UInt8} {x:PrfT} {xs:List RecT} {vs:Value} {a0 a1:Option Addr} {c0 c1:Nat} (k0:Arr (Rp.slice Rp.u8) r (.slice a0 x.1.length c0) x.1) (k1:Arr StubRp r (.slice a1 x.2.1.length c1) x.2.1) (hz:InI64 z) (ha:Arr RecRp r vs xs) (hl:xs.length≤1000000000) (hkl:key.length≤10000000000) (hb0:¬ txtOk z key x xs)
  (hH:At r ⟨0,0,none⟩ (w64s shaH)) (hK:At r ⟨1,0,none⟩ (w64s shaK)) :
  Con prog 70 #[.int .i64 z,.string (str key),.agg #[.slice a0 x.1.length c0,.slice a1 x.2.1.length c1],vs] r [] (Ret fun v η=>v=.slice none 0 0∧η=[]):=by
 refine Con.of (n:=33) _ rfl func70 rfl rfl rfl fun g hg R hR=>?_;have k0:=k0.mono hg;have k1:=k1.mono hg;have ha:=ha.mono hg;have hH:=hH.mono hg;have hK:=hK.mono hg
 by_cases h:prfOk x∧keyOk key∧(shardOf key:Int)=z
 ·obtain ⟨h1,h2,h3⟩:=h
  by_cases hb1:begOk z key x
  ·have hdb:decide (begOk z key x)=true:=by simpa using hb1
   have he:sErr xs≠0:=fun q=>hb0 ⟨hb1,q⟩;refine S.seq<|S.region rfl<|O.opE (.p rfl) (.box (cs:=[_,_]) rfl rfl) ?_;rintro _ _ ⟨b6,rfl,rfl⟩;refine O.q 1 rfl<|O.nil<|S.seq<|S.objIs (b:=b6) (cs' :=[.slice a0 x.1.length c0,.slice a1 x.2.1.length c1]) zB rfl ?_;refine S.frzO zB fun g hs hm h6=>?_;replace hg:=Fr.sub_trans hg hs;replace hR:=melted hR hm
   try replace k0:=k0.mono hs
   try replace k1:=k1.mono hs
   try replace ha:=ha.mono hs
   try replace hH:=hH.mono hs
   try replace hK:=hK.mono hs
   clear hs hm;refine S.region rfl<|O.q 2 rfl<|O.op (.p rfl) (.loadAgg isAgg112 zD rfl h6) ?_;refine O.call0 (.p rfl) rfl zD rfl rfl ((begin_y k0 k1 hz h1 h2 h3 hH hK)) ?_;rintro _ _ ⟨b17,rfl,rfl⟩
   try simp only [zx1,zx2,zx3]
   rw [hdb];refine O.q 2 rfl<|O.slot 18 (v' :=.pointer (some ⟨b17,0,none⟩)) rfl zG ?_;refine O.q 1 rfl<|O.sT 19 rfl zG ?_;refine O.opE (.p rfl) (.alloc (cs:=[.pointer none]) zeroValue198 rfl) ?_;rintro _ _ ⟨b9,rfl,rfl⟩;refine O.opU rfl (.store1 flat198 rfl rfl zN zB zH) ?_;refine O.q 1 rfl<|O.nil<|S.seq<|S.region rfl<|O.q 1 rfl<|O.call0 (.p rfl) rfl zD rfl rfl ((sPut_c (by first|assumption|exact Arr.mono hg zE|exact Arr.left zE|exact Arr.left (Arr.mono hg zE)) hl)) ?_;rintro _ _ ⟨a22,c22,rfl,rfl⟩
   try simp only [zx1,zx2,zx3]
   refine O.q 2 rfl<|O.slot 23 (v' :=.slice a22 (sOut xs).length c22) rfl zG ?_;refine O.q 1 rfl<|O.slot 24 (v' :=.int .i64 (sErr xs)) rfl zG ?_;refine O.opE (.p rfl) (.alloc (cs:=[.slice none 0 0]) zeroValue24 rfl) ?_;rintro _ _ ⟨b11,rfl,rfl⟩;refine O.opU rfl (.store1 flat24 rfl rfl zN zB zH) ?_;refine O.q 1 rfl<|O.nil<|S.seq<|S.seq<|S.region rfl<|O.q 1 rfl<|O.op (.p rfl) (.not rfl)<|O.q 2 rfl<|O.op (.g rfl rfl) (.neq rfl rfl)<|O.sT 29 rfl (by simpa using he) ?_;refine O.q 1 rfl<|O.nil<|S.condT rfl<|S.seq<|S.region rfl<|O.q 1 rfl<|O.nil ?_;exact S.rt results70 rfl hR ⟨rfl,rfl⟩
  ·have hdb:decide (begOk z key x)=false:=by simpa using hb1
   refine S.seq<|S.region rfl<|O.opE (.p rfl) (.box (cs:=[_,_]) rfl rfl) ?_;rintro _ _ ⟨b6,rfl,rfl⟩;refine O.q 1 rfl<|O.nil<|S.seq<|S.objIs (b:=b6) (cs' :=[.slice a0 x.1.length c0,.slice a1 x.2.1.length c1]) zB rfl ?_;refine S.frzO zB fun g hs hm h6=>?_;replace hg:=Fr.sub_trans hg hs;replace hR:=melted hR hm
   try replace k0:=k0.mono hs
   try replace k1:=k1.mono hs
   try replace ha:=ha.mono hs
   try replace hH:=hH.mono hs
   try replace hK:=hK.mono hs
   clear hs hm;refine S.region rfl<|O.q 2 rfl<|O.op (.p rfl) (.loadAgg isAgg112 zD rfl h6) ?_;refine O.call0 (.p rfl) rfl zD rfl rfl ((begin_y k0 k1 hz h1 h2 h3 hH hK)) ?_;rintro _ _ ⟨b17,rfl,rfl⟩
   try simp only [zx1,zx2,zx3]
   rw [hdb];refine O.q 2 rfl<|O.slot 18 (v' :=.pointer (some ⟨b17,0,none⟩)) rfl zG ?_;refine O.q 1 rfl<|O.sF 19 rfl zG ?_;refine O.opE (.p rfl) (.alloc (cs:=[.pointer none]) zeroValue198 rfl) ?_;rintro _ _ ⟨b9,rfl,rfl⟩;refine O.opU rfl (.store1 flat198 rfl rfl zN zB zH) ?_;refine O.q 1 rfl<|O.nil<|S.seq<|S.region rfl<|O.q 1 rfl<|O.call0 (.p rfl) rfl zD rfl rfl ((sPut_c (by first|assumption|exact Arr.mono hg zE|exact Arr.left zE|exact Arr.left (Arr.mono hg zE)) hl)) ?_;rintro _ _ ⟨a22,c22,rfl,rfl⟩
   try simp only [zx1,zx2,zx3]
   refine O.q 2 rfl<|O.slot 23 (v' :=.slice a22 (sOut xs).length c22) rfl zG ?_;refine O.q 1 rfl<|O.slot 24 (v' :=.int .i64 (sErr xs)) rfl zG ?_;refine O.opE (.p rfl) (.alloc (cs:=[.slice none 0 0]) zeroValue24 rfl) ?_;rintro _ _ ⟨b11,rfl,rfl⟩;refine O.opU rfl (.store1 flat24 rfl rfl zN zB zH) ?_;refine O.q 1 rfl<|O.nil<|S.seq<|S.seq<|S.region rfl<|O.q 1 rfl<|O.op (.p rfl) (.not rfl)<|O.q 4 rfl<|O.nil<|S.condT rfl<|S.seq<|S.region rfl<|O.q 1 rfl<|O.nil ?_;exact S.rt results70 rfl hR ⟨rfl,rfl⟩
 ·
  refine S.seq<|S.region rfl<|O.opE (.p rfl) (.box (cs:=[_,_]) rfl rfl) ?_;rintro _ _ ⟨b6,rfl,rfl⟩;refine O.q 1 rfl<|O.nil<|S.seq<|S.objIs (b:=b6) (cs' :=[.slice a0 x.1.length c0,.slice a1 x.2.1.length c1]) zB rfl ?_;refine S.frzO zB fun g hs hm h6=>?_;replace hg:=Fr.sub_trans hg hs;replace hR:=melted hR hm
  try replace k0:=k0.mono hs
  try replace k1:=k1.mono hs
  try replace ha:=ha.mono hs
  try replace hH:=hH.mono hs
  try replace hK:=hK.mono hs
  clear hs hm;refine S.region rfl<|O.q 2 rfl<|O.op (.p rfl) (.loadAgg isAgg112 zD rfl h6) ?_;refine O.call0 (.p rfl) rfl zD rfl rfl ((begin_n k0 k1 hkl h hH hK)) ?_;rintro _ _ ⟨rfl,rfl⟩
  try simp only [zx1,zx2,zx3]
  refine O.q 2 rfl<|O.slot 18 (v' :=.pointer none) rfl zG ?_;refine O.q 1 rfl<|O.sF 19 rfl zG ?_;refine O.opE (.p rfl) (.alloc (cs:=[.pointer none]) zeroValue198 rfl) ?_;rintro _ _ ⟨b9,rfl,rfl⟩;refine O.opU rfl (.store1 flat198 rfl rfl zN zB zH) ?_;refine O.q 1 rfl<|O.nil<|S.seq<|S.region rfl<|O.q 1 rfl<|O.call0 (.p rfl) rfl zD rfl rfl ((sPut_c (by first|assumption|exact Arr.mono hg zE|exact Arr.left zE|exact Arr.left (Arr.mono hg zE)) hl)) ?_;rintro _ _ ⟨a22,c22,rfl,rfl⟩
  try simp only [zx1,zx2,zx3]
  refine O.q 2 rfl<|O.slot 23 (v' :=.slice a22 (sOut xs).length c22) rfl zG ?_;refine O.q 1 rfl<|O.slot 24 (v' :=.int .i64 (sErr xs)) rfl zG ?_;refine O.opE (.p rfl) (.alloc (cs:=[.slice none 0 0]) zeroValue24 rfl) ?_;rintro _ _ ⟨b11,rfl,rfl⟩;refine O.opU rfl (.store1 flat24 rfl rfl zN zB zH) ?_;refine O.q 1 rfl<|O.nil<|S.seq<|S.seq<|S.region rfl<|O.q 1 rfl<|O.op (.p rfl) (.not rfl)<|O.q 4 rfl<|O.nil<|S.condT rfl<|S.seq<|S.region rfl<|O.q 1 rfl<|O.nil ?_;exact S.rt results70 rfl hR ⟨rfl,rfl⟩
theorem nil_rows {e e' :TypeId} {m:Fr} (h:Sat [] m):Sat [OwnP Rp.val e (.slice none 0 0) [],RowsP Rp.u8 e' [] []] m :=
 ⟨Fr.emp,m,Fr.emp_disj _,Fr.emp_sub _,Fr.sub_refl _,ownP_nil _,sat_each0 h⟩
theorem pTexts_c {r:Fr} {z:Int} {key:List UInt8} {x:PrfT} {xs:List RecT} {vs:Value} {a0 a1:Option Addr} {c0 c1:Nat} (k0:Arr (Rp.slice Rp.u8) r (.slice a0 x.1.length c0) x.1) (k1:Arr StubRp r (.slice a1 x.2.1.length c1) x.2.1) (hz:InI64 z) (ha:Arr RecRp r vs xs) (hl:xs.length≤1000000000) (hsl:(sOut xs).length≤100000000) (hxl:x.2.1.length≤1000000) (hkl:key.length≤10000000000)
  (hH:At r ⟨0,0,none⟩ (w64s shaH)) (hK:At r ⟨1,0,none⟩ (w64s shaK)) :
  Con prog 70 #[.int .i64 z,.string (str key),.agg #[.slice a0 x.1.length c0,.slice a1 x.2.1.length c1],vs] r [] (Ret (TextsR 24 5 (textsL z key x xs))):=by
 by_cases hb:txtOk z key x xs
 ·have e:textsL z key x xs=_:=if_pos hb
  rw [e];refine Con.post (pTexts_b k0 k1 hz ha hl hsl hxl hb hH hK) fun e η' h w g hw=>?_
  cases e with
  |returned v =>
   obtain ⟨vs,a,c,rfl,rfl⟩:=h;obtain ⟨_,_,_,_,_,_,_,_,_,_,_,_,_,_,_,_,_,_,hB,_⟩:=id hw;have hln:=EachP.len hB;refine ⟨_,⟨vs,a,c,hln,by rw [← hln],rfl⟩,?_⟩;rw [← hln];exact hw
  |panicked _=>exact h.elim
  |outgrown=>exact h.elim
 ·have e:textsL z key x xs=[]:=if_neg hb
  rw [e];refine Con.post (pTexts_a k0 k1 hz ha hl hkl hb hH hK) fun e η' h w g hw=>?_
  cases e with
  |returned v =>
   obtain ⟨rfl,rfl⟩:=h;exact ⟨_,⟨[],none,0,rfl,rfl,rfl⟩,hw.imp fun _ q=>nil_rows q⟩
  |panicked _=>exact h.elim
  |outgrown=>exact h.elim
theorem own_sh {e:TypeId} {v:Value} {xs:List UInt8} {m:Fr} (h:OwnP Rp.u8 e v xs m):∃ a c,v=.slice a xs.length c∧(xs≠[]→a.isNone=false):=by
 obtain ⟨a,c,rfl⟩:=h.shape;refine ⟨a,c,rfl,fun hx=>?_⟩;obtain ⟨b,rfl⟩:=OwnP.addr h (List.length_pos_iff.2 hx)
 rfl
theorem pCheck_y {r:Fr} {z:Int} {key top:List UInt8} {x:PrfT} {vt:Value} {a0 a1:Option Addr} {c0 c1:Nat} (k0:Arr (Rp.slice Rp.u8) r (.slice a0 x.1.length c0) x.1) (k1:Arr StubRp r (.slice a1 x.2.1.length c1) x.2.1) (hz:InI64 z) (ha:Arr Rp.u8 r vt top) (hxl:x.2.1.length≤1000000) (hkl:key.length≤10000000000)
  (hH:At r ⟨0,0,none⟩ (w64s shaH)) (hK:At r ⟨1,0,none⟩ (w64s shaK)) (h:chkOk z key x top) :
  Con prog 71 #[.int .i64 z,vt,.string (str key),.agg #[.slice a0 x.1.length c0,.slice a1 x.2.1.length c1]] r [] (Ret fun v η=>∃ a c,v=.tuple #[.slice a (saysP key x.2.1).length c,.int .i64 0]∧a.isNone=decide (saysP key x.2.1=[])∧η=[OwnP Rp.u8 5 (.slice a (saysP key x.2.1).length c) (saysP key x.2.1)]):=by
 refine Con.post (pCheck_c k0 k1 hz ha hxl hkl hH hK) fun e η' h' w g hw=>?_
 cases e with
 |returned v =>
  rcases h' with ⟨_,v',rfl,hv,rfl⟩|⟨h2,_⟩
  ·obtain ⟨_,_,_,_,_,_,_,_,_,_,_,_,hB,_⟩:=id hw
   obtain ⟨a,c,rfl,hn⟩:=own_sh hB;refine ⟨_,⟨a,c,rfl,?_,rfl⟩,hw⟩
   by_cases hs:saysP key x.2.1=[]
   ·have:=hv hs
    have ea:=(Value.slice.inj this).1;rw [ea];simp [hs]
   ·rw [hn hs];simp [hs]
  ·exact absurd h h2
 |panicked _=>exact h'.elim
 |outgrown=>exact h'.elim
theorem pCheck_n {r:Fr} {z:Int} {key top:List UInt8} {x:PrfT} {vt:Value} {a0 a1:Option Addr} {c0 c1:Nat} (k0:Arr (Rp.slice Rp.u8) r (.slice a0 x.1.length c0) x.1) (k1:Arr StubRp r (.slice a1 x.2.1.length c1) x.2.1) (hz:InI64 z) (ha:Arr Rp.u8 r vt top) (hxl:x.2.1.length≤1000000) (hkl:key.length≤10000000000)
  (hH:At r ⟨0,0,none⟩ (w64s shaH)) (hK:At r ⟨1,0,none⟩ (w64s shaK)) (h:¬ chkOk z key x top) :
  Con prog 71 #[.int .i64 z,vt,.string (str key),.agg #[.slice a0 x.1.length c0,.slice a1 x.2.1.length c1]] r [] (Ret fun v η=>v=.tuple #[.slice none 0 0,.int .i64 23]∧η=[]):=by
 refine Con.mono (pCheck_c k0 k1 hz ha hxl hkl hH hK) (Ret.imp fun v η h' =>?_)
 rcases h' with ⟨h2,_⟩|⟨_,h3⟩
 ·exact absurd h2 h
 ·exact h3
def hldOk (z:Int) (key:List UInt8) (x:PrfT) (top:List UInt8) (xs:List RecT):Prop:=chkOk z key x top∧(if saysP key x.2.1=[] then xs=[] else xs.head?.map (·.1)=some key∧setD xs=saysP key x.2.1)
noncomputable instance (z:Int) (key:List UInt8) (x:PrfT) (top:List UInt8) (xs:List RecT):Decidable (hldOk z key x top xs):=Classical.propDecidable _
noncomputable def holdsE (z:Int) (key:List UInt8) (x:PrfT) (top:List UInt8) (xs:List RecT):Int:=if hldOk z key x top xs then 0 else 23
set_option maxHeartbeats 1600000 in
theorem pHolds_c {r:Fr} {z:Int} {key top:List UInt8} {x:PrfT} {xs:List RecT} {vt vs:Value} {a0 a1:Option Addr} {c0 c1:Nat} (k0:Arr (Rp.slice Rp.u8) r (.slice a0 x.1.length c0) x.1) (k1:Arr StubRp r (.slice a1 x.2.1.length c1) x.2.1) (hz:InI64 z) (ht:Arr Rp.u8 r vt top) (ha:Arr RecRp r vs xs) (hxl:x.2.1.length≤1000000) (hkl:key.length≤10000000000) (hl:xs.length≤10000000)
  (hH:At r ⟨0,0,none⟩ (w64s shaH)) (hK:At r ⟨1,0,none⟩ (w64s shaK)) :
  Con prog 68 #[.int .i64 z,vt,.string (str key),.agg #[.slice a0 x.1.length c0,.slice a1 x.2.1.length c1],vs] r [] (Ret fun v η=>v=.int .i64 (holdsE z key x top xs)∧η=[]):=by
 obtain ⟨a2,c2,rfl⟩:=ha.shape;refine Con.of (n:=50) _ rfl func68 rfl rfl rfl fun g hg R hR=>?_;have k0:=k0.mono hg;have k1:=k1.mono hg;have ht:=ht.mono hg;have ha:=ha.mono hg;have hH:=hH.mono hg;have hK:=hK.mono hg
 by_cases hc:chkOk z key x top
 ·by_cases hs:saysP key x.2.1=[]
  ·by_cases hx0:xs=[]
   ·have hl0:xs.length=0:=by rw [hx0];rfl
    have he:holdsE z key x top xs=0:=if_pos ⟨hc,by rw [if_pos hs];exact hx0⟩;refine S.seq<|S.region rfl<|O.opE (.p rfl) (.box (cs:=[_,_]) rfl rfl) ?_;rintro _ _ ⟨b8,rfl,rfl⟩;refine O.q 1 rfl<|O.nil<|S.seq<|S.objIs (b:=b8) (cs' :=[.slice a0 x.1.length c0,.slice a1 x.2.1.length c1]) zB rfl ?_;refine S.frzO zB fun g hs hm h8=>?_;replace hg:=Fr.sub_trans hg hs;replace hR:=melted hR hm
    try replace k0:=k0.mono hs
    try replace k1:=k1.mono hs
    try replace ht:=ht.mono hs
    try replace ha:=ha.mono hs
    try replace hH:=hH.mono hs
    try replace hK:=hK.mono hs
    clear hs hm;refine S.region rfl<|O.q 3 rfl<|O.op (.p rfl) (.loadAgg isAgg112 zD rfl h8) ?_;refine O.call0 (.p rfl) rfl zD rfl rfl ((pCheck_y k0 k1 hz ht hxl hkl hH hK hc)) ?_;rintro v18 _ ⟨a18,c18,rfl,hn18,rfl⟩
    try simp only [zx1,zx2,zx3]
    refine O.q 2 rfl<|O.slot 19 (v' :=.slice a18 (saysP key x.2.1).length c18) rfl zG ?_;refine O.q 1 rfl<|O.slot 20 (v' :=.int .i64 0) rfl zG ?_;refine O.q 2 rfl<|O.nil<|S.seq<|S.block<|S.seq<|S.region rfl<|O.q 1 rfl<|O.op (.p rfl) (.neq rfl rfl)<|O.sF 23 rfl zG ?_;refine O.q 1 rfl<|O.nil<|S.condF rfl<|S.seq<|S.region rfl<|O.q 1 rfl<|O.op (.p rfl) (.len rfl underlying22 rfl)<|O.op (.p rfl) (.eql rfl rfl)<|O.sT 28 rfl (by exact decide_eq_true zC) ?_;refine O.q 2 rfl<|O.op (.g rfl rfl) (.eqlNil underlying24 rfl rfl)<|O.sT 31 rfl (by rw [hn18];simpa using hs) ?_;refine O.q 2 rfl<|O.nil<|S.condT rfl<|S.seq<|S.region rfl<|O.q 1 rfl<|O.nil ?_;exact S.rt results68 rfl hR ⟨by rw [he],rfl⟩
   ·have hl0:0<xs.length:=List.length_pos_iff.2 hx0
    have he:holdsE z key x top xs=23:=if_neg fun w=>hx0 (by have:=w.2;rwa [if_pos hs] at this);refine S.seq<|S.region rfl<|O.opE (.p rfl) (.box (cs:=[_,_]) rfl rfl) ?_;rintro _ _ ⟨b8,rfl,rfl⟩;refine O.q 1 rfl<|O.nil<|S.seq<|S.objIs (b:=b8) (cs' :=[.slice a0 x.1.length c0,.slice a1 x.2.1.length c1]) zB rfl ?_;refine S.frzO zB fun g hs hm h8=>?_;replace hg:=Fr.sub_trans hg hs;replace hR:=melted hR hm
    try replace k0:=k0.mono hs
    try replace k1:=k1.mono hs
    try replace ht:=ht.mono hs
    try replace ha:=ha.mono hs
    try replace hH:=hH.mono hs
    try replace hK:=hK.mono hs
    clear hs hm;refine S.region rfl<|O.q 3 rfl<|O.op (.p rfl) (.loadAgg isAgg112 zD rfl h8) ?_;refine O.call0 (.p rfl) rfl zD rfl rfl ((pCheck_y k0 k1 hz ht hxl hkl hH hK hc)) ?_;rintro v18 _ ⟨a18,c18,rfl,hn18,rfl⟩
    try simp only [zx1,zx2,zx3]
    refine O.q 2 rfl<|O.slot 19 (v' :=.slice a18 (saysP key x.2.1).length c18) rfl zG ?_;refine O.q 1 rfl<|O.slot 20 (v' :=.int .i64 0) rfl zG ?_;refine O.q 2 rfl<|O.nil<|S.seq<|S.block<|S.seq<|S.region rfl<|O.q 1 rfl<|O.op (.p rfl) (.neq rfl rfl)<|O.sF 23 rfl zG ?_;refine O.q 1 rfl<|O.nil<|S.condF rfl<|S.seq<|S.region rfl<|O.q 1 rfl<|O.op (.p rfl) (.len rfl underlying22 rfl)<|O.op (.p rfl) (.eql rfl rfl)<|O.sF 28 rfl (by exact decide_eq_false zC) ?_;refine O.q 5 rfl<|O.nil<|S.condF rfl<|S.seq<|S.seq<|S.region rfl<|O.q 1 rfl<|O.op (.p rfl) (.len rfl underlying22 rfl)<|O.op (.p rfl) (.eql rfl rfl)<|O.sF 36 rfl (by exact decide_eq_false zC) ?_;refine O.q 1 rfl<|O.nil<|S.condF rfl<|S.seq<|S.region rfl<|O.q 1 rfl<|O.op (.p rfl) (.eqlNil underlying24 rfl rfl)<|O.sT 38 rfl (by rw [hn18];simpa using hs) ?_;refine O.q 1 rfl<|O.nil<|S.condT rfl<|S.skip<|S.condT rfl<|S.seq<|S.region rfl<|O.q 1 rfl<|O.nil ?_;exact S.rt results68 rfl hR ⟨by rw [he],rfl⟩
  ·by_cases hx0:xs=[]
   ·have hl0:xs.length=0:=by rw [hx0];rfl
    have he:holdsE z key x top xs=23:=if_neg fun w=>by have:=w.2;rw [if_neg hs,hx0] at this;exact absurd this.1 zL
    refine S.seq<|S.region rfl<|O.opE (.p rfl) (.box (cs:=[_,_]) rfl rfl) ?_;rintro _ _ ⟨b8,rfl,rfl⟩;refine O.q 1 rfl<|O.nil<|S.seq<|S.objIs (b:=b8) (cs' :=[.slice a0 x.1.length c0,.slice a1 x.2.1.length c1]) zB rfl ?_;refine S.frzO zB fun g hs hm h8=>?_;replace hg:=Fr.sub_trans hg hs;replace hR:=melted hR hm
    try replace k0:=k0.mono hs
    try replace k1:=k1.mono hs
    try replace ht:=ht.mono hs
    try replace ha:=ha.mono hs
    try replace hH:=hH.mono hs
    try replace hK:=hK.mono hs
    clear hs hm;refine S.region rfl<|O.q 3 rfl<|O.op (.p rfl) (.loadAgg isAgg112 zD rfl h8) ?_;refine O.call0 (.p rfl) rfl zD rfl rfl ((pCheck_y k0 k1 hz ht hxl hkl hH hK hc)) ?_;rintro v18 _ ⟨a18,c18,rfl,hn18,rfl⟩
    try simp only [zx1,zx2,zx3]
    refine O.q 2 rfl<|O.slot 19 (v' :=.slice a18 (saysP key x.2.1).length c18) rfl zG ?_;refine O.q 1 rfl<|O.slot 20 (v' :=.int .i64 0) rfl zG ?_;refine O.q 2 rfl<|O.nil<|S.seq<|S.block<|S.seq<|S.region rfl<|O.q 1 rfl<|O.op (.p rfl) (.neq rfl rfl)<|O.sF 23 rfl zG ?_;refine O.q 1 rfl<|O.nil<|S.condF rfl<|S.seq<|S.region rfl<|O.q 1 rfl<|O.op (.p rfl) (.len rfl underlying22 rfl)<|O.op (.p rfl) (.eql rfl rfl)<|O.sT 28 rfl (by exact decide_eq_true zC) ?_;refine O.q 2 rfl<|O.op (.g rfl rfl) (.eqlNil underlying24 rfl rfl)<|O.sF 31 rfl (by rw [hn18];simpa using hs) ?_;refine O.q 2 rfl<|O.nil<|S.condF rfl<|S.seq<|S.seq<|S.region rfl<|O.q 1 rfl<|O.op (.p rfl) (.len rfl underlying22 rfl)<|O.op (.p rfl) (.eql rfl rfl)<|O.sT 36 rfl (by exact decide_eq_true zC) ?_;refine O.q 1 rfl<|O.nil<|S.condT rfl<|S.skip<|S.condT rfl<|S.seq<|S.region rfl<|O.q 1 rfl<|O.nil ?_;exact S.rt results68 rfl hR ⟨by rw [he],rfl⟩
   ·have hl0:0<xs.length:=List.length_pos_iff.2 hx0
    have hhd:xs.head?.map (·.1)=some xs[0].1:=by rw [List.head?_eq_getElem?,List.getElem?_eq_getElem hl0];rfl
    by_cases hk:xs[0].1=key
    ·by_cases hd:setD xs=saysP key x.2.1
     ·have he:holdsE z key x top xs=0:=if_pos ⟨hc,by rw [if_neg hs];exact ⟨by rw [hhd,hk],hd⟩⟩
      refine S.seq<|S.region rfl<|O.opE (.p rfl) (.box (cs:=[_,_]) rfl rfl) ?_;rintro _ _ ⟨b8,rfl,rfl⟩;refine O.q 1 rfl<|O.nil<|S.seq<|S.objIs (b:=b8) (cs' :=[.slice a0 x.1.length c0,.slice a1 x.2.1.length c1]) zB rfl ?_;refine S.frzO zB fun g hs hm h8=>?_;replace hg:=Fr.sub_trans hg hs;replace hR:=melted hR hm
      try replace k0:=k0.mono hs
      try replace k1:=k1.mono hs
      try replace ht:=ht.mono hs
      try replace ha:=ha.mono hs
      try replace hH:=hH.mono hs
      try replace hK:=hK.mono hs
      clear hs hm;refine S.region rfl<|O.q 3 rfl<|O.op (.p rfl) (.loadAgg isAgg112 zD rfl h8) ?_;refine O.call0 (.p rfl) rfl zD rfl rfl ((pCheck_y k0 k1 hz ht hxl hkl hH hK hc)) ?_;rintro v18 _ ⟨a18,c18,rfl,hn18,rfl⟩
      try simp only [zx1,zx2,zx3]
      refine O.q 2 rfl<|O.slot 19 (v' :=.slice a18 (saysP key x.2.1).length c18) rfl zG ?_;refine O.q 1 rfl<|O.slot 20 (v' :=.int .i64 0) rfl zG ?_;refine O.q 2 rfl<|O.nil<|S.seq<|S.block<|S.seq<|S.region rfl<|O.q 1 rfl<|O.op (.p rfl) (.neq rfl rfl)<|O.sF 23 rfl zG ?_;refine O.q 1 rfl<|O.nil<|S.condF rfl<|S.seq<|S.region rfl<|O.q 1 rfl<|O.op (.p rfl) (.len rfl underlying22 rfl)<|O.op (.p rfl) (.eql rfl rfl)<|O.sF 28 rfl (by exact decide_eq_false zC) ?_;refine O.q 5 rfl<|O.nil<|S.condF rfl<|S.seq<|S.seq<|S.region rfl<|O.q 1 rfl<|O.op (.p rfl) (.len rfl underlying22 rfl)<|O.op (.p rfl) (.eql rfl rfl)<|O.sF 36 rfl (by exact decide_eq_false zC) ?_;refine O.q 1 rfl<|O.nil<|S.condF rfl<|S.seq<|S.region rfl<|O.q 1 rfl<|O.op (.p rfl) (.eqlNil underlying24 rfl rfl)<|O.sF 38 rfl (by rw [hn18];simpa using hs) ?_;refine O.q 1 rfl<|O.nil<|S.condF rfl<|S.seq<|S.region rfl<|O.q 1 rfl<|O.ia (.p rfl) underlying22 size102 rfl rfl (show _=(((0):Nat):Int) by omega) (by first|assumption|exact Arr.mono hg zE|exact Arr.left zE|exact Arr.left (Arr.mono hg zE)) (h:=fun p40 cs40 hp40 hr40=>?_);obtain ⟨ra3_40,ra5_40,ra6_40,rc3_40,rc5_40,rc6_40,rfl,ho0_40,ho1_40,ho2_40,ha3_40,ha5_40,ha6_40⟩:=RecRp.sh hr40;refine O.op (.p rfl) (.fieldAddr fld102x0 rfl)<|O.op (.p rfl) (.loadAt flat9 rfl hp40 rfl) ?_
      refine O.q 1 rfl<|O.op (.p rfl) (.neqS rfl rfl)<|O.sF 44 rfl (by simpa using hk) ?_;refine O.q 1 rfl<|O.nil<|S.condF rfl<|S.region rfl<|O.q 1 rfl<|O.call0 (.p rfl) rfl zD rfl rfl ((setSum_c zE zE zE zI)) ?_;rintro _ _ ⟨a46,c46,rfl,rfl⟩
      try simp only [zx1,zx2,zx3]
      refine O.q 1 rfl<|O.callB (.p rfl) rfl zD rfl rfl (bs:=[OwnP Rp.u8 5 (.slice a46 (setD xs).length c46) (setD xs),OwnP Rp.u8 5 (.slice a18 (saysP key x.2.1).length c18) (saysP key x.2.1)]) zJ (fun m hm hd=>bequal_c (hm.arr.right hd) (hm.tail.arr.right hd)) ?_;rintro _ _ ⟨rfl,rfl⟩
      try simp only [zx1,zx2,zx3]
      refine O.op (.p rfl) ((by first|exact .notD rfl|exact .not rfl)) ?_;refine O.sF 49 rfl (by simpa using hd) ?_;refine O.q 1 rfl<|O.nil<|S.condF rfl<|S.skip<|S.inBlock<|S.seq<|S.region rfl<|O.q 1 rfl<|O.nil ?_;exact S.rt results68 rfl hR ⟨by rw [he],rfl⟩
     ·have he:holdsE z key x top xs=23:=if_neg fun w=>by have:=w.2;rw [if_neg hs] at this;exact hd this.2
      refine S.seq<|S.region rfl<|O.opE (.p rfl) (.box (cs:=[_,_]) rfl rfl) ?_;rintro _ _ ⟨b8,rfl,rfl⟩;refine O.q 1 rfl<|O.nil<|S.seq<|S.objIs (b:=b8) (cs' :=[.slice a0 x.1.length c0,.slice a1 x.2.1.length c1]) zB rfl ?_;refine S.frzO zB fun g hs hm h8=>?_;replace hg:=Fr.sub_trans hg hs;replace hR:=melted hR hm
      try replace k0:=k0.mono hs
      try replace k1:=k1.mono hs
      try replace ht:=ht.mono hs
      try replace ha:=ha.mono hs
      try replace hH:=hH.mono hs
      try replace hK:=hK.mono hs
      clear hs hm;refine S.region rfl<|O.q 3 rfl<|O.op (.p rfl) (.loadAgg isAgg112 zD rfl h8) ?_;refine O.call0 (.p rfl) rfl zD rfl rfl ((pCheck_y k0 k1 hz ht hxl hkl hH hK hc)) ?_;rintro v18 _ ⟨a18,c18,rfl,hn18,rfl⟩
      try simp only [zx1,zx2,zx3]
      refine O.q 2 rfl<|O.slot 19 (v' :=.slice a18 (saysP key x.2.1).length c18) rfl zG ?_;refine O.q 1 rfl<|O.slot 20 (v' :=.int .i64 0) rfl zG ?_;refine O.q 2 rfl<|O.nil<|S.seq<|S.block<|S.seq<|S.region rfl<|O.q 1 rfl<|O.op (.p rfl) (.neq rfl rfl)<|O.sF 23 rfl zG ?_;refine O.q 1 rfl<|O.nil<|S.condF rfl<|S.seq<|S.region rfl<|O.q 1 rfl<|O.op (.p rfl) (.len rfl underlying22 rfl)<|O.op (.p rfl) (.eql rfl rfl)<|O.sF 28 rfl (by exact decide_eq_false zC) ?_;refine O.q 5 rfl<|O.nil<|S.condF rfl<|S.seq<|S.seq<|S.region rfl<|O.q 1 rfl<|O.op (.p rfl) (.len rfl underlying22 rfl)<|O.op (.p rfl) (.eql rfl rfl)<|O.sF 36 rfl (by exact decide_eq_false zC) ?_;refine O.q 1 rfl<|O.nil<|S.condF rfl<|S.seq<|S.region rfl<|O.q 1 rfl<|O.op (.p rfl) (.eqlNil underlying24 rfl rfl)<|O.sF 38 rfl (by rw [hn18];simpa using hs) ?_;refine O.q 1 rfl<|O.nil<|S.condF rfl<|S.seq<|S.region rfl<|O.q 1 rfl<|O.ia (.p rfl) underlying22 size102 rfl rfl (show _=(((0):Nat):Int) by omega) (by first|assumption|exact Arr.mono hg zE|exact Arr.left zE|exact Arr.left (Arr.mono hg zE)) (h:=fun p40 cs40 hp40 hr40=>?_);obtain ⟨ra3_40,ra5_40,ra6_40,rc3_40,rc5_40,rc6_40,rfl,ho0_40,ho1_40,ho2_40,ha3_40,ha5_40,ha6_40⟩:=RecRp.sh hr40;refine O.op (.p rfl) (.fieldAddr fld102x0 rfl)<|O.op (.p rfl) (.loadAt flat9 rfl hp40 rfl) ?_
      refine O.q 1 rfl<|O.op (.p rfl) (.neqS rfl rfl)<|O.sF 44 rfl (by simpa using hk) ?_;refine O.q 1 rfl<|O.nil<|S.condF rfl<|S.region rfl<|O.q 1 rfl<|O.call0 (.p rfl) rfl zD rfl rfl ((setSum_c zE zE zE zI)) ?_;rintro _ _ ⟨a46,c46,rfl,rfl⟩
      try simp only [zx1,zx2,zx3]
      refine O.q 1 rfl<|O.callB (.p rfl) rfl zD rfl rfl (bs:=[OwnP Rp.u8 5 (.slice a46 (setD xs).length c46) (setD xs),OwnP Rp.u8 5 (.slice a18 (saysP key x.2.1).length c18) (saysP key x.2.1)]) zJ (fun m hm hd=>bequal_c (hm.arr.right hd) (hm.tail.arr.right hd)) ?_;rintro _ _ ⟨rfl,rfl⟩
      try simp only [zx1,zx2,zx3]
      refine O.op (.p rfl) ((by first|exact .notD rfl|exact .not rfl)) ?_;refine O.sT 49 rfl (by simpa using hd) ?_;refine O.q 1 rfl<|O.nil<|S.condT rfl<|S.seq<|S.region rfl<|O.q 1 rfl<|O.nil ?_;exact S.rt results68 rfl hR ⟨by rw [he],rfl⟩
    ·have he:holdsE z key x top xs=23:=if_neg fun w=>by have:=w.2;rw [if_neg hs,hhd] at this;exact hk (Option.some.inj this.1)
     refine S.seq<|S.region rfl<|O.opE (.p rfl) (.box (cs:=[_,_]) rfl rfl) ?_;rintro _ _ ⟨b8,rfl,rfl⟩;refine O.q 1 rfl<|O.nil<|S.seq<|S.objIs (b:=b8) (cs' :=[.slice a0 x.1.length c0,.slice a1 x.2.1.length c1]) zB rfl ?_;refine S.frzO zB fun g hs hm h8=>?_;replace hg:=Fr.sub_trans hg hs;replace hR:=melted hR hm
     try replace k0:=k0.mono hs
     try replace k1:=k1.mono hs
     try replace ht:=ht.mono hs
     try replace ha:=ha.mono hs
     try replace hH:=hH.mono hs
     try replace hK:=hK.mono hs
     clear hs hm;refine S.region rfl<|O.q 3 rfl<|O.op (.p rfl) (.loadAgg isAgg112 zD rfl h8) ?_;refine O.call0 (.p rfl) rfl zD rfl rfl ((pCheck_y k0 k1 hz ht hxl hkl hH hK hc)) ?_;rintro v18 _ ⟨a18,c18,rfl,hn18,rfl⟩
     try simp only [zx1,zx2,zx3]
     refine O.q 2 rfl<|O.slot 19 (v' :=.slice a18 (saysP key x.2.1).length c18) rfl zG ?_;refine O.q 1 rfl<|O.slot 20 (v' :=.int .i64 0) rfl zG ?_;refine O.q 2 rfl<|O.nil<|S.seq<|S.block<|S.seq<|S.region rfl<|O.q 1 rfl<|O.op (.p rfl) (.neq rfl rfl)<|O.sF 23 rfl zG ?_;refine O.q 1 rfl<|O.nil<|S.condF rfl<|S.seq<|S.region rfl<|O.q 1 rfl<|O.op (.p rfl) (.len rfl underlying22 rfl)<|O.op (.p rfl) (.eql rfl rfl)<|O.sF 28 rfl (by exact decide_eq_false zC) ?_;refine O.q 5 rfl<|O.nil<|S.condF rfl<|S.seq<|S.seq<|S.region rfl<|O.q 1 rfl<|O.op (.p rfl) (.len rfl underlying22 rfl)<|O.op (.p rfl) (.eql rfl rfl)<|O.sF 36 rfl (by exact decide_eq_false zC) ?_;refine O.q 1 rfl<|O.nil<|S.condF rfl<|S.seq<|S.region rfl<|O.q 1 rfl<|O.op (.p rfl) (.eqlNil underlying24 rfl rfl)<|O.sF 38 rfl (by rw [hn18];simpa using hs) ?_;refine O.q 1 rfl<|O.nil<|S.condF rfl<|S.seq<|S.region rfl<|O.q 1 rfl<|O.ia (.p rfl) underlying22 size102 rfl rfl (show _=(((0):Nat):Int) by omega) (by first|assumption|exact Arr.mono hg zE|exact Arr.left zE|exact Arr.left (Arr.mono hg zE)) (h:=fun p40 cs40 hp40 hr40=>?_);obtain ⟨ra3_40,ra5_40,ra6_40,rc3_40,rc5_40,rc6_40,rfl,ho0_40,ho1_40,ho2_40,ha3_40,ha5_40,ha6_40⟩:=RecRp.sh hr40;refine O.op (.p rfl) (.fieldAddr fld102x0 rfl)<|O.op (.p rfl) (.loadAt flat9 rfl hp40 rfl) ?_
     refine O.q 1 rfl<|O.op (.p rfl) (.neqS rfl rfl)<|O.sT 44 rfl (by simpa using hk) ?_;refine O.q 1 rfl<|O.nil<|S.condT rfl<|S.skip<|S.condT rfl<|S.seq<|S.region rfl<|O.q 1 rfl<|O.nil ?_;exact S.rt results68 rfl hR ⟨by rw [he],rfl⟩
 ·have he:holdsE z key x top xs=23:=if_neg fun w=>hc w.1
  refine S.seq<|S.region rfl<|O.opE (.p rfl) (.box (cs:=[_,_]) rfl rfl) ?_;rintro _ _ ⟨b8,rfl,rfl⟩;refine O.q 1 rfl<|O.nil<|S.seq<|S.objIs (b:=b8) (cs' :=[.slice a0 x.1.length c0,.slice a1 x.2.1.length c1]) zB rfl ?_;refine S.frzO zB fun g hs hm h8=>?_;replace hg:=Fr.sub_trans hg hs;replace hR:=melted hR hm
  try replace k0:=k0.mono hs
  try replace k1:=k1.mono hs
  try replace ht:=ht.mono hs
  try replace ha:=ha.mono hs
  try replace hH:=hH.mono hs
  try replace hK:=hK.mono hs
  clear hs hm;refine S.region rfl<|O.q 3 rfl<|O.op (.p rfl) (.loadAgg isAgg112 zD rfl h8) ?_;refine O.call0 (.p rfl) rfl zD rfl rfl ((pCheck_n k0 k1 hz ht hxl hkl hH hK hc)) ?_;rintro _ _ ⟨rfl,rfl⟩
  try simp only [zx1,zx2,zx3]
  refine O.q 2 rfl<|O.slot 19 (v' :=.slice none 0 0) rfl zG ?_;refine O.q 1 rfl<|O.slot 20 (v' :=.int .i64 23) rfl zG ?_;refine O.q 2 rfl<|O.nil<|S.seq<|S.block<|S.seq<|S.region rfl<|O.q 1 rfl<|O.op (.p rfl) (.neq rfl rfl)<|O.sT 23 rfl zG ?_;refine O.q 1 rfl<|O.nil<|S.condT rfl<|S.seq<|S.region rfl<|O.q 2 rfl<|O.nil ?_;exact S.rt results68 rfl hR ⟨by rw [he],rfl⟩
def NoTree (r:Fr) (v:Value):Prop:=Con prog 87 #[v] r [] (Ret fun u η=>u=.bool false∧η=[])
theorem NoTree.mono {r r' :Fr} {v:Value} (h:NoTree r v) (e:r.sub r'):NoTree r' v:=Con.sub h e
theorem noTree_nil {r:Fr}:NoTree r (.pointer none):=there_nil
theorem noTree_zero {r:Fr} {b:Nat} (h:At r ⟨b,0,none⟩ zeroT):NoTree r (.pointer (some ⟨b,0,none⟩)):=there_zero h
theorem nNode_c {r:Fr} {v:Value} {p:List UInt8} (h:NoTree r v):Con prog 34 #[v,.string (str p)] r [] (Ret fun u η=>u=.tuple #[.agg #[.int .u8 0,.slice none 0 0,.slice none 0 0,.slice none 0 0],.int .i64 1]∧η=[]):=by
 refine Con.of (n:=28) _ rfl func34 rfl rfl rfl fun g hg R hR=>?_;have h:=h.mono hg;refine S.seq<|S.region rfl<|O.opE (.p rfl) (.alloc (cs:=[.int .u8 0,.slice none 0 0,.slice none 0 0,.slice none 0 0]) zeroValue27 rfl) ?_;rintro _ _ ⟨b4,rfl,rfl⟩;refine O.q 1 rfl<|O.nil<|S.seq<|S.block<|S.seq<|S.region rfl<|O.q 1 rfl<|O.call0 (.p rfl) rfl zD rfl rfl (h) ?_;rintro _ _ ⟨rfl,rfl⟩
 try simp only [zx1,zx2,zx3]
 refine O.sF 8 rfl zG ?_;refine O.op (.p rfl) (.not rfl)<|O.q 1 rfl<|O.nil<|S.condT rfl<|S.seq<|S.region rfl<|O.op (.p rfl) (.build (cs:=[_,_,_,_]) underlying27 rfl rfl rfl rfl rfl)<|O.opU rfl (.storeObj zD rfl rfl rfl rfl zB zH) ?_;refine O.q 1 rfl<|O.nil<|S.retCellT results34 rfl rfl zB (LoadsAs.agg isAgg27 zD) fun w hw=>Holds.end_ hR hw ?_;exact pk ⟨rfl,rfl⟩
theorem under_c {r:Fr} {b s:Nat} {L:List LeafT} {p:List UInt8} {va:Value} {a:List Nat} (h:TreeA r b s L) (ha:Arr Rp.nat r va a) (hat:∀ i∈a,i<L.length) (hp:p.length≤9223372036854775807) (hal:a.length≤10000000) :
  Con prog 97 #[.pointer (some ⟨b,0,none⟩),.string (str p),va] r [] (Ret fun v η=>∃ a1 c1,v=.slice a1 (underI L p a).length c1∧η=[OwnP Rp.nat 3 (.slice a1 (underI L p a).length c1) (underI L p a)]):=by
 obtain ⟨aL,cL,aW,cW,mid,h,hL,hW⟩:=h;have hbd:=ha.bound;obtain ⟨a1,c1,rfl⟩:=ha.shape;refine Con.of (n:=31) _ rfl func97 rfl rfl rfl fun g hg R hR=>?_;have h:=h.mono hg;have hL:=hL.mono hg;have hW:=hW.mono hg;have ha:=ha.mono hg;refine S.addNil (T:=Rp.nat) (e:=3) ?_;refine S.seq<|S.region rfl<|O.q 1 rfl<|O.nil<|S.seq<|S.region rfl<|O.q 1 rfl<|O.nil<|S.seq<|S.seq<|S.region rfl<|O.q 1 rfl<|O.op (.p rfl) (.len rfl underlying104 rfl)<|O.q 1 rfl<|O.nil<|S.block<|S.loopK2 (ι:=Nat) (κ:=Option Addr × Nat) (fun k u=>k≤a.length) (fun k u=>[(12,.int .i64 (k:Int)),(7,.slice u.1 (underI L p (a.take k)).length u.2)]) [(0,_),(1,_),(10,_),(11,_)] (fun k u=>[OwnP Rp.nat 3 (.slice u.1 (underI L p (a.take k)).length u.2) (underI L p (a.take k))]) (fun k u=>a.length - k) (0) ((none,0)) zL (.cons rfl (.cons rfl (.nil))) (.cons rfl (.cons rfl (.cons rfl (.cons rfl (.nil))))) rfl fun k u hx ih=>?_;have hm1:=meltRefl (g:=g);refine S.seq<|S.region rfl<|O.op (.p rfl) (.lss rfl rfl)<|O.nil (S.seq ?_)
 first|refine S.condD rfl (fun h13=>?_) (fun h13=>?_)|refine S.condB rfl (fun h13=>?_) (fun h13=>?_)
 ·have hk:k<a.length:=by omega
  have hi:=hat _ (List.getElem_mem hk);have hsn:=underI_snoc (L:=L) (p:=p) hk hat;have hul:=underI_len L p (a.take k);have htl:(a.take k).length≤k:=by simp;omega
  have hml:(L.map fun x=>wayOf x.1).length=L.length:=List.length_map ..;have hi64:InI64 ((a[k]:Nat):Int):=⟨by omega,by have:=hL.bound;omega⟩
  by_cases q:p.isPrefixOf (wayOf (L[a[k]]'hi).1)=true
  ·rw [if_pos q] at hsn
   refine S.skip<|S.seq<|S.block<|S.seq<|S.region rfl<|O.ia (.p rfl) underlying104 size3 rfl rfl rfl (by first|assumption|exact Arr.mono hg zE|exact Arr.left zE|exact Arr.left (Arr.mono hg zE)) (h:=fun p14 cs14 hp14 hr14=>?_);obtain ⟨rfl,hz14⟩:=hr14;refine O.op (.p rfl) (.loadAt flat3 rfl hp14 rfl) ?_;refine O.slot 15 (v' :=.int .i64 ((a[k]:Nat):Int)) rfl zG ?_;refine O.q 1 rfl<|O.nil<|S.seq<|S.region rfl<|O.q 1 rfl<|O.op (.p rfl) (.nilCheck rfl)<|O.op (.p rfl) (.fieldAddr fld74x1 rfl)<|O.op (.p rfl) (.loadAt flat53 rfl (h.drop 1) rfl) ?_;refine O.q 1 rfl<|O.ia (.p rfl) underlying53 size9 rfl rfl (show _=(((a[k]):Nat):Int) by omega) (by first|assumption|exact Arr.mono hg zE|exact Arr.left zE|exact Arr.left (Arr.mono hg zE)) (h:=fun p21 cs21 hp21 hr21=>?_);obtain ⟨rfl,hz21⟩:=hr21;refine O.op (.p rfl) (.loadAt flat9 rfl hp21 rfl) ?_;refine O.slot 22 (v' :=.string (str (wayOf (L[a[k]]'hi).1))) rfl (by rw [List.getElem_map]) ?_;refine O.q 1 rfl<|O.call0 (.p rfl) rfl zD rfl rfl ((hasPrefix_c zL hp)) ?_;rintro _ _ ⟨rfl,rfl⟩
   try simp only [zx1,zx2,zx3]
   refine O.sT 24 rfl (by exact q) ?_;refine O.nil<|S.condT rfl<|S.region rfl<|O.q 2 rfl<|O.opE (.p rfl) (.litP (T:=Rp.nat) (ys:=[a[k]]) underlying104 elem3 zF rfl rfl ⟨⟨rfl,hi64⟩,trivial⟩ zF) ?_;rintro _ _ ⟨a27,c27,rfl,rfl⟩;refine O.opE (.p rfl) (.appendO (T:=Rp.nat) underlying104 elem3 zF rfl rfl zB zB zI zI) ?_;rintro _ _ ⟨a28,c28,rfl,rfl⟩;refine O.q 1 rfl<|O.nil<|S.inBlock<|S.region rfl<|O.op (.p rfl) (.add rfl rfl (IntWalk.i64_in _ zC))<|O.q 1 rfl<|O.nil ?_;rw [← hsn];rw [show (underI L p (a.take k)).length+[a[k]].length=(underI L p (a.take (k+1))).length from by rw [hsn];simp];exact S.pw (ih (k+1) ((a28,c28)) zC zC)
  ·rw [if_neg q] at hsn
   refine S.skip<|S.seq<|S.block<|S.seq<|S.region rfl<|O.ia (.p rfl) underlying104 size3 rfl rfl rfl (by first|assumption|exact Arr.mono hg zE|exact Arr.left zE|exact Arr.left (Arr.mono hg zE)) (h:=fun p14 cs14 hp14 hr14=>?_);obtain ⟨rfl,hz14⟩:=hr14;refine O.op (.p rfl) (.loadAt flat3 rfl hp14 rfl) ?_;refine O.slot 15 (v' :=.int .i64 ((a[k]:Nat):Int)) rfl zG ?_;refine O.q 1 rfl<|O.nil<|S.seq<|S.region rfl<|O.q 1 rfl<|O.op (.p rfl) (.nilCheck rfl)<|O.op (.p rfl) (.fieldAddr fld74x1 rfl)<|O.op (.p rfl) (.loadAt flat53 rfl (h.drop 1) rfl) ?_;refine O.q 1 rfl<|O.ia (.p rfl) underlying53 size9 rfl rfl (show _=(((a[k]):Nat):Int) by omega) (by first|assumption|exact Arr.mono hg zE|exact Arr.left zE|exact Arr.left (Arr.mono hg zE)) (h:=fun p21 cs21 hp21 hr21=>?_);obtain ⟨rfl,hz21⟩:=hr21;refine O.op (.p rfl) (.loadAt flat9 rfl hp21 rfl) ?_;refine O.slot 22 (v' :=.string (str (wayOf (L[a[k]]'hi).1))) rfl (by rw [List.getElem_map]) ?_;refine O.q 1 rfl<|O.call0 (.p rfl) rfl zD rfl rfl ((hasPrefix_c zL hp)) ?_;rintro _ _ ⟨rfl,rfl⟩
   try simp only [zx1,zx2,zx3]
   refine O.sF 24 rfl (by exact Bool.eq_false_iff.2 q) ?_;refine O.nil<|S.condF rfl<|S.skip<|S.inBlock<|S.region rfl<|O.op (.p rfl) (.add rfl rfl (IntWalk.i64_in _ zC))<|O.q 1 rfl<|O.nil ?_;rw [← hsn];exact S.pw (ih (k+1) (u) zC zC)
 ·clear ih
  have hk:k=a.length:=by omega
  subst hk;rw [List.take_length];refine S.exit rfl<|S.seq<|S.region rfl<|O.q 2 rfl<|O.nil ?_;exact S.rt results97 rfl hR ⟨u.1,u.2,rfl,rfl⟩
end Go.Proofs.YtojafegjlahajaaGreatDoor
