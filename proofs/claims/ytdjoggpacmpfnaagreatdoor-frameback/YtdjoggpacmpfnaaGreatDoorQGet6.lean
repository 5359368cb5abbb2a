/- Texts of this proof. -/
import Derived.Test.YtdjoggpacmpfnaaGreatDoorQGet4
open Go Go.Sp Go.Proofs.Tryz
set_option maxRecDepth 100000
set_option maxHeartbeats 1000000
attribute [local irreducible] obj Own OwnP
namespace Go.Proofs.YtdjoggpacmpfnaaGreatDoor
abbrev evdV (x:EvdT) (v3 v4 v8 v9:Value):List Value:=[.int .i64 x.1.1,.int .i64 x.1.2.1,.int .i64 x.1.2.2.1,v3,v4,.int .i64 x.2.1.1,.int .i64 x.2.1.2.1,.int .i64 x.2.1.2.2.1,v8,v9]
abbrev evdWs (x:EvdT) (v3 v4 v8 v9:Value):List SProp:=[OwnP Rp.u8 5 v3 x.1.2.2.2.1,OwnP Rp.u8 5 v4 x.1.2.2.2.2.1,OwnP Rp.u8 5 v8 x.2.1.2.2.2.1,OwnP Rp.u8 5 v9 x.2.1.2.2.2.2.1]
abbrev evd0:List Value:=[.int .i64 0,.int .i64 0,.int .i64 0,.slice none 0 0,.slice none 0 0,.int .i64 0,.int .i64 0,.int .i64 0,.slice none 0 0,.slice none 0 0]
def evd_t (b:List UInt8) (v:Value) (η:List SProp):Prop:=(∃ x a3 c3 a4 c4 a8 c8 a9 c9,evdGet b=some x∧v=.tuple #[.agg (evdV x (.slice a3 x.1.2.2.2.1.length c3) (.slice a4 x.1.2.2.2.2.1.length c4) (.slice a8 x.2.1.2.2.2.1.length c8) (.slice a9 x.2.1.2.2.2.2.1.length c9)).toArray,.int .i64 0] ∧
 η=evdWs x (.slice a3 x.1.2.2.2.1.length c3) (.slice a4 x.1.2.2.2.2.1.length c4) (.slice a8 x.2.1.2.2.2.1.length c8) (.slice a9 x.2.1.2.2.2.2.1.length c9))∨(evdGet b=none∧v=.tuple #[.agg evd0.toArray,.int .i64 4]∧η=[])
theorem eGet_c {r:Fr} {va:Value} {b:List UInt8} (ha:Arr Rp.u8 r va b) (hl:b.length≤1000000000):Con prog 248 #[va] r [] (Ret fun v η=>evd_t b v η):=by
 refine Con.o func248 fun g hg R hR=>?_;have ha:=ha.mono hg;obtain ⟨a1,c1,rfl⟩:=ha.shape;refine S.seq<|S.region rfl<|O.opE (.p rfl) (.alloc (cs:=[.int .i64 0,.int .i64 0,.int .i64 0,.slice none 0 0,.slice none 0 0,.int .i64 0,.int .i64 0,.int .i64 0,.slice none 0 0,.slice none 0 0]) zeroValue38 rfl) ?_;rintro _ _ ⟨b2,rfl,rfl⟩;refine zz 5 ?_;refine O.call0 (.p rfl) rfl zB rfl rfl (rdNew_c zA zH) ?_;rintro _ _ ⟨b11,rfl,rfl⟩;refine zz 3 ?_;generalize hy:(RS.mk true b).bytes 153=y;have ly:y.2.rest.length≤1000000000:=by rw [← hy];exact Nat.le_trans (RS.bytes_len _ _) hl
 have lo:y.1.length≤1000000000:=by rw [← hy];exact Nat.le_trans (RS.bytes_out _ _) hl
 generalize hz:y.2.bytes 153=z;have lz:z.1.length≤1000000000:=by rw [← hz];exact Nat.le_trans (RS.bytes_out _ _) ly
 have hev:evdGet b=(rootGet y.1).bind fun a=>(rootGet z.1).bind fun c=>if z.2.done=true∧evdOk (a,c,())=true then some (a,c,()) else none:=by unfold evdGet;simp only;rw [hy,hz]
 cases e1:rootGet y.1 with
 |none =>
  have hno:evdGet b=none:=by rw [hev,e1];rfl
  cases e2:rootGet z.1 with
  |none =>
   refine zz 2 ?_;refine O.callS (.p rfl) rfl zB rfl rfl zC (rdBytes_c _ zL) ?_;rintro _ _ ⟨a14,c14,rfl,rfl⟩;rw [hy];refine O.frzA zC fun g hs hm ha14=>?_;replace hg:=zfs hg hs;replace hR:=melted hR hm
   try replace ha:=ha.mono hs
   clear hs hm;refine O.v0 (.p rfl) rfl zB rfl rfl ((tGetN_c e1 ha14 lo)) ?_;refine O.q 3 rfl<|O.opE (.p rfl) (.alloc (cs:=[.int .i64 0,.int .i64 0,.int .i64 0,.slice none 0 0,.slice none 0 0]) zeroValue27 rfl) ?_;rintro _ _ ⟨b5,rfl,rfl⟩;refine zz 6 ?_;refine O.callS (.p rfl) rfl zB rfl rfl zC (rdBytes_c _ zD) ?_;rintro _ _ ⟨a20,c20,rfl,rfl⟩;rw [hz];refine O.frzA zC fun g hs hm ha20=>?_;replace hg:=zfs hg hs;replace hR:=melted hR hm
   try replace ha:=ha.mono hs
   try replace ha14:=ha14.mono hs
   clear hs hm;refine O.v0 (.p rfl) rfl zB rfl rfl ((tGetN_c e2 ha20 lz)) ?_;refine O.q 3 rfl<|O.opE (.p rfl) (.alloc (cs:=[.int .i64 0,.int .i64 0,.int .i64 0,.slice none 0 0,.slice none 0 0]) zeroValue27 rfl) ?_;rintro _ _ ⟨b7,rfl,rfl⟩;refine zz 7 ?_;refine O.op (.p rfl) (.build (cs:=[_,_,_,_,_,_,_,_,_,_]) underlying38 rfl rfl rfl rfl rfl)<|O.opE (.p rfl) (.alloc (cs:=[.int .i64 0,.int .i64 0,.int .i64 0,.slice none 0 0,.slice none 0 0,.int .i64 0,.int .i64 0,.int .i64 0,.slice none 0 0,.slice none 0 0]) zeroValue38 rfl) ?_;rintro _ _ ⟨b9,rfl,rfl⟩;refine zz 1 ?_;refine O.nil (S.seq (S.seq ?_))
   cases e3:z.2.done with
   |true =>
    refine zz 2 ?_;refine O.vS (.p rfl) rfl zB rfl rfl zC rdDone_c ?_;refine O.sT 28 rfl (by exact e3)<|zz 4 ?_;refine O.sT 32 rfl zE<|zz 14 ?_;refine O.op (.p rfl) (.build (cs:=[_,_,_,_,_,_,_,_,_,_]) underlying38 rfl rfl rfl rfl rfl)<|zz 1 ?_;refine O.q 1 rfl<|O.nil<|S.retCellT results248 rfl rfl zC (LoadsAs.agg isAgg38 zB) fun w hw=>Holds.end_ hR hw ?_;exact pk (.inr ⟨hno,rfl,rfl⟩)
   |false =>
    refine zz 2 ?_;refine O.vS (.p rfl) rfl zB rfl rfl zC rdDone_c ?_;refine O.sF 28 rfl (by exact e3)<|zz 18 ?_;refine O.op (.p rfl) (.build (cs:=[_,_,_,_,_,_,_,_,_,_]) underlying38 rfl rfl rfl rfl rfl)<|zz 1 ?_;refine O.q 1 rfl<|O.nil<|S.retCellT results248 rfl rfl zC (LoadsAs.agg isAgg38 zB) fun w hw=>Holds.end_ hR hw ?_;exact pk (.inr ⟨hno,rfl,rfl⟩)
  |some c =>
   refine zz 2 ?_;refine O.callS (.p rfl) rfl zB rfl rfl zC (rdBytes_c _ zL) ?_;rintro _ _ ⟨a14,c14,rfl,rfl⟩;rw [hy];refine O.frzA zC fun g hs hm ha14=>?_;replace hg:=zfs hg hs;replace hR:=melted hR hm
   try replace ha:=ha.mono hs
   clear hs hm;refine O.v0 (.p rfl) rfl zB rfl rfl ((tGetN_c e1 ha14 lo)) ?_;refine O.q 3 rfl<|O.opE (.p rfl) (.alloc (cs:=[.int .i64 0,.int .i64 0,.int .i64 0,.slice none 0 0,.slice none 0 0]) zeroValue27 rfl) ?_;rintro _ _ ⟨b5,rfl,rfl⟩;refine zz 6 ?_;refine O.callS (.p rfl) rfl zB rfl rfl zC (rdBytes_c _ zD) ?_;rintro _ _ ⟨a20,c20,rfl,rfl⟩;rw [hz];refine O.frzA zC fun g hs hm ha20=>?_;replace hg:=zfs hg hs;replace hR:=melted hR hm
   try replace ha:=ha.mono hs
   try replace ha14:=ha14.mono hs
   clear hs hm;refine O.call0 (.p rfl) rfl zB rfl rfl ((tGetY_c e2 ha20 lz)) ?_;rintro _ _ ⟨a8,c8,a9,c9,rfl,rfl⟩;refine O.q 3 rfl<|O.opE (.p rfl) (.alloc (cs:=[.int .i64 0,.int .i64 0,.int .i64 0,.slice none 0 0,.slice none 0 0]) zeroValue27 rfl) ?_;rintro _ _ ⟨b7,rfl,rfl⟩;refine zz 7 ?_;refine O.op (.p rfl) (.build (cs:=[_,_,_,_,_,_,_,_,_,_]) underlying38 rfl rfl rfl rfl rfl)<|O.opE (.p rfl) (.alloc (cs:=[.int .i64 0,.int .i64 0,.int .i64 0,.slice none 0 0,.slice none 0 0,.int .i64 0,.int .i64 0,.int .i64 0,.slice none 0 0,.slice none 0 0]) zeroValue38 rfl) ?_;rintro _ _ ⟨b9,rfl,rfl⟩;refine zz 1 ?_;refine O.nil (S.seq (S.seq ?_))
   cases e3:z.2.done with
   |true =>
    refine zz 2 ?_;refine O.vS (.p rfl) rfl zB rfl rfl zC rdDone_c ?_;refine O.sT 28 rfl (by exact e3)<|zz 4 ?_;refine O.sT 32 rfl zE<|zz 14 ?_;refine O.op (.p rfl) (.build (cs:=[_,_,_,_,_,_,_,_,_,_]) underlying38 rfl rfl rfl rfl rfl)<|zz 1 ?_;refine O.q 1 rfl<|O.nil<|S.retCellT results248 rfl rfl zC (LoadsAs.agg isAgg38 zB) fun w hw=>Holds.end_ hR hw ?_;exact pk (.inr ⟨hno,rfl,rfl⟩)
   |false =>
    refine zz 2 ?_;refine O.vS (.p rfl) rfl zB rfl rfl zC rdDone_c ?_;refine O.sF 28 rfl (by exact e3)<|zz 18 ?_;refine O.op (.p rfl) (.build (cs:=[_,_,_,_,_,_,_,_,_,_]) underlying38 rfl rfl rfl rfl rfl)<|zz 1 ?_;refine O.q 1 rfl<|O.nil<|S.retCellT results248 rfl rfl zC (LoadsAs.agg isAgg38 zB) fun w hw=>Holds.end_ hR hw ?_;exact pk (.inr ⟨hno,rfl,rfl⟩)
 |some a =>
  cases e2:rootGet z.1 with
  |none =>
   have hno:evdGet b=none:=by rw [hev,e1,e2];rfl
   refine zz 2 ?_;refine O.callS (.p rfl) rfl zB rfl rfl zC (rdBytes_c _ zL) ?_;rintro _ _ ⟨a14,c14,rfl,rfl⟩;rw [hy];refine O.frzA zC fun g hs hm ha14=>?_;replace hg:=zfs hg hs;replace hR:=melted hR hm
   try replace ha:=ha.mono hs
   clear hs hm;refine O.call0 (.p rfl) rfl zB rfl rfl ((tGetY_c e1 ha14 lo)) ?_;rintro _ _ ⟨a3,c3,a4,c4,rfl,rfl⟩;refine O.q 3 rfl<|O.opE (.p rfl) (.alloc (cs:=[.int .i64 0,.int .i64 0,.int .i64 0,.slice none 0 0,.slice none 0 0]) zeroValue27 rfl) ?_;rintro _ _ ⟨b5,rfl,rfl⟩;refine zz 6 ?_;refine O.callS (.p rfl) rfl zB rfl rfl zC (rdBytes_c _ zD) ?_;rintro _ _ ⟨a20,c20,rfl,rfl⟩;rw [hz];refine O.frzA zC fun g hs hm ha20=>?_;replace hg:=zfs hg hs;replace hR:=melted hR hm
   try replace ha:=ha.mono hs
   try replace ha14:=ha14.mono hs
   clear hs hm;refine O.v0 (.p rfl) rfl zB rfl rfl ((tGetN_c e2 ha20 lz)) ?_;refine O.q 3 rfl<|O.opE (.p rfl) (.alloc (cs:=[.int .i64 0,.int .i64 0,.int .i64 0,.slice none 0 0,.slice none 0 0]) zeroValue27 rfl) ?_;rintro _ _ ⟨b7,rfl,rfl⟩;refine zz 7 ?_;refine O.op (.p rfl) (.build (cs:=[_,_,_,_,_,_,_,_,_,_]) underlying38 rfl rfl rfl rfl rfl)<|O.opE (.p rfl) (.alloc (cs:=[.int .i64 0,.int .i64 0,.int .i64 0,.slice none 0 0,.slice none 0 0,.int .i64 0,.int .i64 0,.int .i64 0,.slice none 0 0,.slice none 0 0]) zeroValue38 rfl) ?_;rintro _ _ ⟨b9,rfl,rfl⟩;refine zz 1 ?_;refine O.nil (S.seq (S.seq ?_))
   cases e3:z.2.done with
   |true =>
    refine zz 2 ?_;refine O.vS (.p rfl) rfl zB rfl rfl zC rdDone_c ?_;refine O.sT 28 rfl (by exact e3)<|zz 4 ?_;refine O.sF 32 rfl zE<|zz 4 ?_;refine O.sT 36 rfl zE<|zz 10 ?_;refine O.op (.p rfl) (.build (cs:=[_,_,_,_,_,_,_,_,_,_]) underlying38 rfl rfl rfl rfl rfl)<|zz 1 ?_;refine O.q 1 rfl<|O.nil<|S.retCellT results248 rfl rfl zC (LoadsAs.agg isAgg38 zB) fun w hw=>Holds.end_ hR hw ?_;exact pk (.inr ⟨hno,rfl,rfl⟩)
   |false =>
    refine zz 2 ?_;refine O.vS (.p rfl) rfl zB rfl rfl zC rdDone_c ?_;refine O.sF 28 rfl (by exact e3)<|zz 18 ?_;refine O.op (.p rfl) (.build (cs:=[_,_,_,_,_,_,_,_,_,_]) underlying38 rfl rfl rfl rfl rfl)<|zz 1 ?_;refine O.q 1 rfl<|O.nil<|S.retCellT results248 rfl rfl zC (LoadsAs.agg isAgg38 zB) fun w hw=>Holds.end_ hR hw ?_;exact pk (.inr ⟨hno,rfl,rfl⟩)
  |some c =>
   have hev2:evdGet b=if z.2.done=true∧evdOk (a,c,())=true then some (a,c,()) else none:=by rw [hev,e1,e2];rfl
   have oka:=rootOk_iff.1 (rootGet_iff.1 e1).1;have okc:=rootOk_iff.1 (rootGet_iff.1 e2).1;have sa:=rootShape_iff.1 oka.1;have sc:=rootShape_iff.1 okc.1;have hrel:∀ {m:Fr} (v3 v4 v8 v9:Value),Arr Rp.u8 m v3 a.2.2.2.1→Arr Rp.u8 m v4 a.2.2.2.2.1→Arr Rp.u8 m v8 c.2.2.2.1→Arr Rp.u8 m v9 c.2.2.2.2.1→EvdRp.rel m [.int .i64 a.1,.int .i64 a.2.1,.int .i64 a.2.2.1,v3,v4,.int .i64 c.1,.int .i64 c.2.1,.int .i64 c.2.2.1,v8,v9] (a,c,()):=fun v3 v4 v8 v9 h3 h4 h8 h9=>EvdRp.mk ⟨by omega,by omega⟩ ⟨by omega,by omega⟩ ⟨by omega,by omega⟩ h3 h4 ⟨by omega,by omega⟩ ⟨by omega,by omega⟩ ⟨by omega,by omega⟩ h8 h9;clear oka okc sa sc;refine zz 2 ?_;refine O.callS (.p rfl) rfl zB rfl rfl zC (rdBytes_c _ zL) ?_;rintro _ _ ⟨a14,c14,rfl,rfl⟩;rw [hy];refine O.frzA zC fun g hs hm ha14=>?_;replace hg:=zfs hg hs;replace hR:=melted hR hm
   try replace ha:=ha.mono hs
   clear hs hm;refine O.call0 (.p rfl) rfl zB rfl rfl ((tGetY_c e1 ha14 lo)) ?_;rintro _ _ ⟨a3,c3,a4,c4,rfl,rfl⟩;refine O.q 3 rfl<|O.opE (.p rfl) (.alloc (cs:=[.int .i64 0,.int .i64 0,.int .i64 0,.slice none 0 0,.slice none 0 0]) zeroValue27 rfl) ?_;rintro _ _ ⟨b5,rfl,rfl⟩;refine zz 6 ?_;refine O.callS (.p rfl) rfl zB rfl rfl zC (rdBytes_c _ zD) ?_;rintro _ _ ⟨a20,c20,rfl,rfl⟩;rw [hz];refine O.frzA zC fun g hs hm ha20=>?_;replace hg:=zfs hg hs;replace hR:=melted hR hm
   try replace ha:=ha.mono hs
   try replace ha14:=ha14.mono hs
   clear hs hm;refine O.call0 (.p rfl) rfl zB rfl rfl ((tGetY_c e2 ha20 lz)) ?_;rintro _ _ ⟨a8,c8,a9,c9,rfl,rfl⟩;refine O.q 3 rfl<|O.opE (.p rfl) (.alloc (cs:=[.int .i64 0,.int .i64 0,.int .i64 0,.slice none 0 0,.slice none 0 0]) zeroValue27 rfl) ?_;rintro _ _ ⟨b7,rfl,rfl⟩;refine zz 7 ?_;refine O.op (.p rfl) (.build (cs:=[_,_,_,_,_,_,_,_,_,_]) underlying38 rfl rfl rfl rfl rfl)<|O.opE (.p rfl) (.alloc (cs:=[.int .i64 0,.int .i64 0,.int .i64 0,.slice none 0 0,.slice none 0 0,.int .i64 0,.int .i64 0,.int .i64 0,.slice none 0 0,.slice none 0 0]) zeroValue38 rfl) ?_;rintro _ _ ⟨b9,rfl,rfl⟩;refine zz 1 ?_;refine O.nil (S.seq (S.seq ?_))
   cases e3:z.2.done with
   |false =>
    have hno:evdGet b=none:=by rw [hev2,if_neg (fun q=>by rw [e3] at q;exact absurd q.1 zE)]
    refine zz 2 ?_;refine O.vS (.p rfl) rfl zB rfl rfl zC rdDone_c ?_;refine O.sF 28 rfl (by exact e3)<|zz 18 ?_;refine O.op (.p rfl) (.build (cs:=[_,_,_,_,_,_,_,_,_,_]) underlying38 rfl rfl rfl rfl rfl)<|zz 1 ?_;refine O.q 1 rfl<|O.nil<|S.retCellT results248 rfl rfl zC (LoadsAs.agg isAgg38 zB) fun w hw=>Holds.end_ hR hw ?_;exact pk (.inr ⟨hno,rfl,rfl⟩)
   |true =>
    cases e4:evdOk (a,c,()) with
    |true =>
     have hyes:evdGet b=some (a,c,()):=by rw [hev2,if_pos ⟨e3,e4⟩]
     refine zz 2 ?_;refine O.vS (.p rfl) rfl zB rfl rfl zC rdDone_c ?_;refine O.sT 28 rfl (by exact e3)<|zz 4 ?_;refine O.sF 32 rfl zE<|zz 4 ?_;refine O.sF 36 rfl zE<|zz 3 ?_;refine O.callB (.g rfl rfl) rfl zB rfl rfl (bs:=[OwnP Rp.u8 5 (.slice a3 a.2.2.2.1.length c3) a.2.2.2.1,OwnP Rp.u8 5 (.slice a4 a.2.2.2.2.1.length c4) a.2.2.2.2.1,OwnP Rp.u8 5 (.slice a8 c.2.2.2.1.length c8) c.2.2.2.1,OwnP Rp.u8 5 (.slice a9 c.2.2.2.2.1.length c9) c.2.2.2.2.1]) zI (fun m hm hd=>eRight_c (hrel _ _ _ _ (hm.arr.right hd) (hm.tail.arr.right hd) (hm.tail.tail.arr.right hd) (hm.tail.tail.tail.arr.right hd))) ?_;rintro _ _ ⟨rfl,rfl⟩;refine O.sT 40 rfl (by exact e4)<|zz 9 ?_;refine O.q 1 rfl<|O.nil<|S.retCellT results248 rfl rfl zC (LoadsAs.agg isAgg38 zB) fun w hw=>Holds.end_ hR hw ?_;exact pk (.inl ⟨_,a3,c3,a4,c4,a8,c8,a9,c9,hyes,rfl,rfl⟩)
    |false =>
     have hno:evdGet b=none:=by rw [hev2,if_neg (fun q=>by rw [e4] at q;exact absurd q.2 zE)]
     refine zz 2 ?_;refine O.vS (.p rfl) rfl zB rfl rfl zC rdDone_c ?_;refine O.sT 28 rfl (by exact e3)<|zz 4 ?_;refine O.sF 32 rfl zE<|zz 4 ?_;refine O.sF 36 rfl zE<|zz 3 ?_;refine O.callB (.g rfl rfl) rfl zB rfl rfl (bs:=[OwnP Rp.u8 5 (.slice a3 a.2.2.2.1.length c3) a.2.2.2.1,OwnP Rp.u8 5 (.slice a4 a.2.2.2.2.1.length c4) a.2.2.2.2.1,OwnP Rp.u8 5 (.slice a8 c.2.2.2.1.length c8) c.2.2.2.1,OwnP Rp.u8 5 (.slice a9 c.2.2.2.2.1.length c9) c.2.2.2.2.1]) zI (fun m hm hd=>eRight_c (hrel _ _ _ _ (hm.arr.right hd) (hm.tail.arr.right hd) (hm.tail.tail.arr.right hd) (hm.tail.tail.tail.arr.right hd))) ?_;rintro _ _ ⟨rfl,rfl⟩;refine O.sF 40 rfl (by exact e4)<|zz 6 ?_;refine O.op (.p rfl) (.build (cs:=[_,_,_,_,_,_,_,_,_,_]) underlying38 rfl rfl rfl rfl rfl)<|zz 1 ?_;refine O.q 1 rfl<|O.nil<|S.retCellT results248 rfl rfl zC (LoadsAs.agg isAgg38 zB) fun w hw=>Holds.end_ hR hw ?_;exact pk (.inr ⟨hno,rfl,rfl⟩)
theorem evd_tY {b:List UInt8} {x:EvdT} {v:Value} {η:List SProp} (e:evdGet b=some x) (h:evd_t b v η):∃ a3 c3 a4 c4 a8 c8 a9 c9,v=.tuple #[.agg (evdV x (.slice a3 x.1.2.2.2.1.length c3) (.slice a4 x.1.2.2.2.2.1.length c4) (.slice a8 x.2.1.2.2.2.1.length c8) (.slice a9 x.2.1.2.2.2.2.1.length c9)).toArray,.int .i64 0] ∧
  η=evdWs x (.slice a3 x.1.2.2.2.1.length c3) (.slice a4 x.1.2.2.2.2.1.length c4) (.slice a8 x.2.1.2.2.2.1.length c8) (.slice a9 x.2.1.2.2.2.2.1.length c9):=by
 rcases h with ⟨y,a3,c3,a4,c4,a8,c8,a9,c9,h1,rfl,rfl⟩|⟨h1,_⟩
 ·rw [e] at h1;obtain rfl:=Option.some.inj h1;exact ⟨a3,c3,a4,c4,a8,c8,a9,c9,rfl,rfl⟩
 ·rw [e] at h1;cases h1
theorem evd_tN {b:List UInt8} {v:Value} {η:List SProp} (e:evdGet b=none) (h:evd_t b v η):v=.tuple #[.agg evd0.toArray,.int .i64 4]∧η=[]:=by
 rcases h with ⟨y,a3,c3,a4,c4,a8,c8,a9,c9,h1,_⟩|⟨_,h1,h2⟩
 ·rw [e] at h1;cases h1
 ·exact ⟨h1,h2⟩
theorem dot_eq {x y:DotT} (h:(x.1,x.2.1)=(y.1,y.2.1)):x=y:=by
 obtain ⟨a,b,⟨⟩⟩:=x;obtain ⟨c,d,⟨⟩⟩:=y
 simp_all
theorem sameDots_c {r:Fr} {va vb:Value} {xs ys:List DotT} (ha:Arr DotRp r va xs) (hb:Arr DotRp r vb ys) :
  Con prog 212 #[va,vb] r [] (Ret fun v η=>v=.bool (decide (xs=ys))∧η=[]):=by
 have har:=ha;have hbr:=hb;refine Con.o func212 fun g hg R hR=>?_;have ha:=ha.mono hg;have hb:=hb.mono hg;have hbd:=ha.bound;obtain ⟨a1,c1,rfl⟩:=ha.shape;obtain ⟨a2,c2,rfl⟩:=hb.shape
 by_cases e0:xs.length=ys.length
 ·
  refine zz 12 ?_;refine O.sF 10 rfl (by exact zdf zD)<|zz 9 ?_;refine S.loopK (ι:=Nat) (fun i=>i≤xs.length∧xs.take i=ys.take i) (fun i=>[(5,.int .i64 (i:Int))]) [(0,_),(1,_)] (fun i=>[]) (fun i=>xs.length - i) (0) zG zq zq rfl fun i hx ih=>?_;have hm1:=meltRefl (g:=g);obtain ⟨hx1,hx2⟩:=hx;refine zz 8 ?_;refine S.cd rfl (fun h14=>?_) fun h14=>?_
  ·have hi:i<xs.length:=by omega
   have hi2:i<ys.length:=by omega
   by_cases e:xs[i]=ys[i]
   ·
    refine S.skip<|S.seq<|S.block<|S.seq<|S.regionD (L:=.range 9) F.mixed zB<|OD.q 2 rfl<|OD.iy har hg (h:=fun p19 cs19 hp19 hrr19=>?_);have hr19:=Rp.rel.mono hrr19 hg;obtain ⟨rfl,hi19,hj19⟩:=DotRp.open hr19;refine .quiet (.p rfl) rfl (fun _=>.loadAgg isAgg115 zB rfl hp19) ?_;refine OD.q 2 rfl<|OD.iy hbr hg (h:=fun p23 cs23 hp23 hrr23=>?_);have hr23:=Rp.rel.mono hrr23 hg;obtain ⟨rfl,hi23,hj23⟩:=DotRp.open hr23;refine .quiet (.p rfl) rfl (fun _=>.loadAgg isAgg115 zB rfl hp23) ?_;refine .quiet (.p rfl) rfl (fun _=>.neqDot underlying115 underlying3 rfl rfl rfl rfl zE zE zB zB rfl rfl)<|OD.sF 25 rfl (by exact zdf (not_not_intro (by rw [e]))) ?_;refine zz 9 ?_;exact S.wk (ih (i+1) (by exact ⟨by omega,take_same hi hi2 hx2 e⟩) zD)
   ·
    refine S.skip<|S.seq<|S.block<|S.seq<|S.regionD (L:=.range 9) F.mixed zB<|OD.q 2 rfl<|OD.iy har hg (h:=fun p19 cs19 hp19 hrr19=>?_);have hr19:=Rp.rel.mono hrr19 hg;obtain ⟨rfl,hi19,hj19⟩:=DotRp.open hr19;refine .quiet (.p rfl) rfl (fun _=>.loadAgg isAgg115 zB rfl hp19) ?_;refine OD.q 2 rfl<|OD.iy hbr hg (h:=fun p23 cs23 hp23 hrr23=>?_);have hr23:=Rp.rel.mono hrr23 hg;obtain ⟨rfl,hi23,hj23⟩:=DotRp.open hr23;refine .quiet (.p rfl) rfl (fun _=>.loadAgg isAgg115 zB rfl hp23) ?_;refine .quiet (.p rfl) rfl (fun _=>.neqDot underlying115 underlying3 rfl rfl rfl rfl zE zE zB zB rfl rfl)<|OD.sT 25 rfl (by exact zdt (fun q=>e (dot_eq q))) ?_;refine zz 6 ?_;exact S.rt results212 rfl hR ⟨congrArg _ (zdf (not_same hi hi2 e)).symm,rfl⟩
  ·have hi:i=xs.length:=by omega
   clear ih;subst hi;rw [List.take_length,e0,List.take_length] at hx2;refine zz 5 ?_;exact S.rt results212 rfl hR ⟨by simp [hx2],rfl⟩
 ·
  refine zz 12 ?_;refine O.sT 10 rfl (by exact zdt zD)<|zz 6 ?_;exact S.rt results212 rfl hR ⟨congrArg _ (zdf (fun h=>e0 (by rw [h]))).symm,rfl⟩
theorem sameRecord_eq {x y:RecT} (h0:x.1=y.1) (h1:x.2.1=y.2.1) (h2:x.2.2.1=y.2.2.1) (h3:x.2.2.2.1=y.2.2.2.1) (h4:x.2.2.2.2.1=y.2.2.2.2.1) (h5:x.2.2.2.2.2.1=y.2.2.2.2.2.1) (h6:x.2.2.2.2.2.2.1=y.2.2.2.2.2.2.1):x=y:=by
 obtain ⟨a0,a1,a2,a3,a4,a5,a6,⟨⟩⟩:=x;obtain ⟨b0,b1,b2,b3,b4,b5,b6,⟨⟩⟩:=y
 simp_all
theorem sameRecord_c {r:Fr} {cs ds:List Value} {x y:RecT} (hx:RecRp.rel r cs x) (hy:RecRp.rel r ds y) :
  Con prog 113 #[.agg cs.toArray,.agg ds.toArray] r [] (Ret fun v η=>v=.bool (decide (x=y))∧η=[]):=by
 obtain ⟨xa3,xa5,xa6,xc3,xc5,xc6,rfl,xk0,xk1,xk2,xk3,xk5,xk6⟩:=RecRp.sh hx;obtain ⟨ya3,ya5,ya6,yc3,yc5,yc6,rfl,yk0,yk1,yk2,yk3,yk5,yk6⟩:=RecRp.sh hy;refine Con.o func113 fun g hg R hR=>?_;have xk3:=xk3.mono hg;have xk5:=xk5.mono hg;have xk6:=xk6.mono hg;have yk3:=yk3.mono hg;have yk5:=yk5.mono hg;have yk6:=yk6.mono hg;refine S.seq<|S.region rfl<|O.opE (.p rfl) (.box (cs:=[_,_,_,_,_,_,_]) rfl rfl) ?_;rintro _ _ ⟨b2,rfl,rfl⟩;refine O.opE (.p rfl) (.box (cs:=[_,_,_,_,_,_,_]) rfl rfl) ?_;rintro _ _ ⟨b3,rfl,rfl⟩;refine zz 8 ?_;refine O.op (.p rfl) (.eqlS rfl rfl)<|O.q 1 rfl ?_
 refine O.cs 10 rfl (fun h10=>?_) fun h10=>?_
 ·refine zz 7 ?_
  refine O.cs 17 rfl (fun h17=>?_) fun h17=>?_
  ·refine zz 7 ?_
   refine O.cs 24 rfl (fun h24=>?_) fun h24=>?_
   ·refine zz 4 ?_
    refine O.v0 (.g rfl rfl) rfl zB rfl rfl (sameDots_c zA zA)<|zz 2 ?_
    refine O.cs 31 rfl (fun h31=>?_) fun h31=>?_
    ·refine zz 4 ?_
     refine O.op (.g rfl rfl) (.eqlB underlying4 rfl rfl)<|O.q 2 rfl ?_
     refine O.cs 38 rfl (fun h38=>?_) fun h38=>?_
     ·refine zz 4 ?_
      refine O.v0 (.g rfl rfl) rfl zB rfl rfl (SameBytes_c zA zA)<|zz 2 ?_
      refine O.cs 45 rfl (fun h45=>?_) fun h45=>?_
      ·refine zz 4 ?_
       refine O.v0 (.g rfl rfl) rfl zB rfl rfl (SameBytes_c zA zA) ?_;refine O.q 2 rfl<|O.nil<|S.ret results113 rfl fun w hw=>Holds.end_ hR hw ?_
       first|exact ⟨_,⟨congrArg _ (zdf (fun e=>by subst e;exact absurd rfl zF)).symm,rfl⟩,zM⟩|exact ⟨_,⟨congrArg _ (decide_eq_decide.2 ⟨fun e=>sameRecord_eq (str_eqL zF) zF zF zF zF zF e,fun e=>by rw [e]⟩),rfl⟩,zM⟩
      ·refine O.q 7 rfl<|O.nil<|S.ret results113 rfl fun w hw=>Holds.end_ hR hw ?_
       first|exact ⟨_,⟨congrArg _ (zdf (fun e=>by subst e;exact absurd rfl zF)).symm,rfl⟩,zM⟩|exact ⟨_,⟨congrArg _ (decide_eq_decide.2 ⟨fun e=>sameRecord_eq (str_eqL zF) zF zF zF zF zF e,fun e=>by rw [e]⟩),rfl⟩,zM⟩
     ·refine O.q 14 rfl<|O.nil<|S.ret results113 rfl fun w hw=>Holds.end_ hR hw ?_
      first|exact ⟨_,⟨congrArg _ (zdf (fun e=>by subst e;exact absurd rfl zF)).symm,rfl⟩,zM⟩|exact ⟨_,⟨congrArg _ (decide_eq_decide.2 ⟨fun e=>sameRecord_eq (str_eqL zF) zF zF zF zF zF e,fun e=>by rw [e]⟩),rfl⟩,zM⟩
    ·refine O.q 21 rfl<|O.nil<|S.ret results113 rfl fun w hw=>Holds.end_ hR hw ?_
     first|exact ⟨_,⟨congrArg _ (zdf (fun e=>by subst e;exact absurd rfl zF)).symm,rfl⟩,zM⟩|exact ⟨_,⟨congrArg _ (decide_eq_decide.2 ⟨fun e=>sameRecord_eq (str_eqL zF) zF zF zF zF zF e,fun e=>by rw [e]⟩),rfl⟩,zM⟩
   ·refine O.q 28 rfl<|O.nil<|S.ret results113 rfl fun w hw=>Holds.end_ hR hw ?_
    first|exact ⟨_,⟨congrArg _ (zdf (fun e=>by subst e;exact absurd rfl zF)).symm,rfl⟩,zM⟩|exact ⟨_,⟨congrArg _ (decide_eq_decide.2 ⟨fun e=>sameRecord_eq (str_eqL zF) zF zF zF zF zF e,fun e=>by rw [e]⟩),rfl⟩,zM⟩
  ·refine O.q 35 rfl<|O.nil<|S.ret results113 rfl fun w hw=>Holds.end_ hR hw ?_
   first|exact ⟨_,⟨congrArg _ (zdf (fun e=>by subst e;exact absurd rfl zF)).symm,rfl⟩,zM⟩|exact ⟨_,⟨congrArg _ (decide_eq_decide.2 ⟨fun e=>sameRecord_eq (str_eqL zF) zF zF zF zF zF e,fun e=>by rw [e]⟩),rfl⟩,zM⟩
 ·refine O.q 42 rfl<|O.nil<|S.ret results113 rfl fun w hw=>Holds.end_ hR hw ?_
  first|exact ⟨_,⟨congrArg _ (zdf (fun e=>by subst e;exact absurd rfl zF)).symm,rfl⟩,zM⟩|exact ⟨_,⟨congrArg _ (decide_eq_decide.2 ⟨fun e=>sameRecord_eq (str_eqL zF) zF zF zF zF zF e,fun e=>by rw [e]⟩),rfl⟩,zM⟩
theorem sameRecords_c {r:Fr} {va vb:Value} {xs ys:List RecT} (ha:Arr RecRp r va xs) (hb:Arr RecRp r vb ys) :
  Con prog 49 #[va,vb] r [] (Ret fun v η=>v=.bool (decide (xs=ys))∧η=[]):=by
 have har:=ha;have hbr:=hb;refine Con.o func49 fun g hg R hR=>?_;have ha:=ha.mono hg;have hb:=hb.mono hg;have hbd:=ha.bound;obtain ⟨a1,c1,rfl⟩:=ha.shape;obtain ⟨a2,c2,rfl⟩:=hb.shape
 by_cases e0:xs.length=ys.length
 ·
  refine zz 12 ?_;refine O.sF 10 rfl (by exact zdf zD)<|zz 9 ?_;refine S.loopK (ι:=Nat) (fun i=>i≤xs.length∧xs.take i=ys.take i) (fun i=>[(5,.int .i64 (i:Int))]) [(0,_),(1,_)] (fun i=>[]) (fun i=>xs.length - i) (0) zG zq zq rfl fun i hx ih=>?_;have hm1:=meltRefl (g:=g);obtain ⟨hx1,hx2⟩:=hx;refine zz 8 ?_;refine S.cd rfl (fun h14=>?_) fun h14=>?_
  ·have hi:i<xs.length:=by omega
   have hi2:i<ys.length:=by omega
   by_cases e:xs[i]=ys[i]
   ·
    refine S.skip<|S.seq<|S.block<|S.seq<|S.regionD (L:=.range 10) F.mixed zB<|OD.q 2 rfl<|OD.iy har hg (h:=fun p19 cs19 hp19 hrr19=>?_);have hr19:=Rp.rel.mono hrr19 hg;obtain ⟨ra3_19,ra5_19,ra6_19,rc3_19,rc5_19,rc6_19,rfl,ho0_19,ho1_19,ho2_19,ha3_19,ha5_19,ha6_19⟩:=RecRp.sh hr19;refine .quiet (.p rfl) rfl (fun _=>.loadAgg isAgg118 zB rfl hp19) ?_;refine OD.q 2 rfl<|OD.iy hbr hg (h:=fun p23 cs23 hp23 hrr23=>?_);have hr23:=Rp.rel.mono hrr23 hg;obtain ⟨ra3_23,ra5_23,ra6_23,rc3_23,rc5_23,rc6_23,rfl,ho0_23,ho1_23,ho2_23,ha3_23,ha5_23,ha6_23⟩:=RecRp.sh hr23;refine .quiet (.p rfl) rfl (fun _=>.loadAgg isAgg118 zB rfl hp23) ?_;refine OD.v0 (.p rfl) zB rfl zB rfl rfl ((sameRecord_c hr19 hr23)) ?_;refine OD.sT 25 rfl (by exact zdt e)<|zz 10 ?_;exact S.wk (ih (i+1) (by exact ⟨by omega,take_same hi hi2 hx2 e⟩) zD)
   ·
    refine S.skip<|S.seq<|S.block<|S.seq<|S.regionD (L:=.range 10) F.mixed zB<|OD.q 2 rfl<|OD.iy har hg (h:=fun p19 cs19 hp19 hrr19=>?_);have hr19:=Rp.rel.mono hrr19 hg;obtain ⟨ra3_19,ra5_19,ra6_19,rc3_19,rc5_19,rc6_19,rfl,ho0_19,ho1_19,ho2_19,ha3_19,ha5_19,ha6_19⟩:=RecRp.sh hr19;refine .quiet (.p rfl) rfl (fun _=>.loadAgg isAgg118 zB rfl hp19) ?_;refine OD.q 2 rfl<|OD.iy hbr hg (h:=fun p23 cs23 hp23 hrr23=>?_);have hr23:=Rp.rel.mono hrr23 hg;obtain ⟨ra3_23,ra5_23,ra6_23,rc3_23,rc5_23,rc6_23,rfl,ho0_23,ho1_23,ho2_23,ha3_23,ha5_23,ha6_23⟩:=RecRp.sh hr23;refine .quiet (.p rfl) rfl (fun _=>.loadAgg isAgg118 zB rfl hp23) ?_;refine OD.v0 (.p rfl) zB rfl zB rfl rfl ((sameRecord_c hr19 hr23)) ?_;refine OD.sF 25 rfl (by exact zdf e)<|zz 7 ?_;exact S.rt results49 rfl hR ⟨congrArg _ (zdf (not_same hi hi2 e)).symm,rfl⟩
  ·have hi:i=xs.length:=by omega
   clear ih;subst hi;rw [List.take_length,e0,List.take_length] at hx2;refine zz 5 ?_;exact S.rt results49 rfl hR ⟨by simp [hx2],rfl⟩
 ·
  refine zz 12 ?_;refine O.sT 10 rfl (by exact zdt zD)<|zz 6 ?_;exact S.rt results49 rfl hR ⟨congrArg _ (zdf (fun h=>e0 (by rw [h]))).symm,rfl⟩
theorem sameLeaf_eq {x y:LeafT} (h0:x.1=y.1) (h1:x.2.1=y.2.1):x=y:=by
 obtain ⟨a0,a1,⟨⟩⟩:=x;obtain ⟨b0,b1,⟨⟩⟩:=y
 simp_all
theorem sameLeaf_c {r:Fr} {cs ds:List Value} {x y:LeafT} (hx:LeafRp.rel r cs x) (hy:LeafRp.rel r ds y) :
  Con prog 190 #[.agg cs.toArray,.agg ds.toArray] r [] (Ret fun v η=>v=.bool (decide (x=y))∧η=[]):=by
 obtain ⟨xa1,xc1,rfl,xk0,xk1⟩:=LeafRp.sh hx;obtain ⟨ya1,yc1,rfl,yk0,yk1⟩:=LeafRp.sh hy;refine Con.o func190 fun g hg R hR=>?_;have xk1:=xk1.mono hg;have yk1:=yk1.mono hg;refine S.seq<|S.region rfl<|O.opE (.p rfl) (.box (cs:=[_,_]) rfl rfl) ?_;rintro _ _ ⟨b2,rfl,rfl⟩;refine O.opE (.p rfl) (.box (cs:=[_,_]) rfl rfl) ?_;rintro _ _ ⟨b3,rfl,rfl⟩;refine zz 8 ?_;refine O.op (.p rfl) (.eqlS rfl rfl)<|O.q 1 rfl ?_
 refine O.cs 10 rfl (fun h10=>?_) fun h10=>?_
 ·refine zz 4 ?_
  refine O.v0 (.g rfl rfl) rfl zB rfl rfl (sameRecords_c zA zA) ?_;refine O.q 2 rfl<|O.nil<|S.ret results190 rfl fun w hw=>Holds.end_ hR hw ?_
  first|exact ⟨_,⟨congrArg _ (zdf (fun e=>by subst e;exact absurd rfl zF)).symm,rfl⟩,zM⟩|exact ⟨_,⟨congrArg _ (decide_eq_decide.2 ⟨fun e=>sameLeaf_eq (str_eqL zF) e,fun e=>by rw [e]⟩),rfl⟩,zM⟩
 ·refine O.q 7 rfl<|O.nil<|S.ret results190 rfl fun w hw=>Holds.end_ hR hw ?_
  first|exact ⟨_,⟨congrArg _ (zdf (fun e=>by subst e;exact absurd rfl zF)).symm,rfl⟩,zM⟩|exact ⟨_,⟨congrArg _ (decide_eq_decide.2 ⟨fun e=>sameLeaf_eq (str_eqL zF) e,fun e=>by rw [e]⟩),rfl⟩,zM⟩
theorem sameLeaves_c {r:Fr} {va vb:Value} {xs ys:List LeafT} (ha:Arr LeafRp r va xs) (hb:Arr LeafRp r vb ys) :
  Con prog 112 #[va,vb] r [] (Ret fun v η=>v=.bool (decide (xs=ys))∧η=[]):=by
 have har:=ha;have hbr:=hb;refine Con.o func112 fun g hg R hR=>?_;have ha:=ha.mono hg;have hb:=hb.mono hg;have hbd:=ha.bound;obtain ⟨a1,c1,rfl⟩:=ha.shape;obtain ⟨a2,c2,rfl⟩:=hb.shape
 by_cases e0:xs.length=ys.length
 ·
  refine zz 12 ?_;refine O.sF 10 rfl (by exact zdf zD)<|zz 9 ?_;refine S.loopK (ι:=Nat) (fun i=>i≤xs.length∧xs.take i=ys.take i) (fun i=>[(5,.int .i64 (i:Int))]) [(0,_),(1,_)] (fun i=>[]) (fun i=>xs.length - i) (0) zG zq zq rfl fun i hx ih=>?_;have hm1:=meltRefl (g:=g);obtain ⟨hx1,hx2⟩:=hx;refine zz 8 ?_;refine S.cd rfl (fun h14=>?_) fun h14=>?_
  ·have hi:i<xs.length:=by omega
   have hi2:i<ys.length:=by omega
   by_cases e:xs[i]=ys[i]
   ·
    refine S.skip<|S.seq<|S.block<|S.seq<|S.regionD (L:=.range 10) F.mixed zB<|OD.q 2 rfl<|OD.iy har hg (h:=fun p19 cs19 hp19 hrr19=>?_);have hr19:=Rp.rel.mono hrr19 hg;obtain ⟨la1_19,lc1_19,rfl,ho0_19,ha1_19⟩:=LeafRp.sh hr19;refine .quiet (.p rfl) rfl (fun _=>.loadAgg isAgg120 zB rfl hp19) ?_;refine OD.q 2 rfl<|OD.iy hbr hg (h:=fun p23 cs23 hp23 hrr23=>?_);have hr23:=Rp.rel.mono hrr23 hg;obtain ⟨la1_23,lc1_23,rfl,ho0_23,ha1_23⟩:=LeafRp.sh hr23;refine .quiet (.p rfl) rfl (fun _=>.loadAgg isAgg120 zB rfl hp23) ?_;refine OD.v0 (.p rfl) zB rfl zB rfl rfl ((sameLeaf_c hr19 hr23)) ?_;refine OD.sT 25 rfl (by exact zdt e)<|zz 10 ?_;exact S.wk (ih (i+1) (by exact ⟨by omega,take_same hi hi2 hx2 e⟩) zD)
   ·
    refine S.skip<|S.seq<|S.block<|S.seq<|S.regionD (L:=.range 10) F.mixed zB<|OD.q 2 rfl<|OD.iy har hg (h:=fun p19 cs19 hp19 hrr19=>?_);have hr19:=Rp.rel.mono hrr19 hg;obtain ⟨la1_19,lc1_19,rfl,ho0_19,ha1_19⟩:=LeafRp.sh hr19;refine .quiet (.p rfl) rfl (fun _=>.loadAgg isAgg120 zB rfl hp19) ?_;refine OD.q 2 rfl<|OD.iy hbr hg (h:=fun p23 cs23 hp23 hrr23=>?_);have hr23:=Rp.rel.mono hrr23 hg;obtain ⟨la1_23,lc1_23,rfl,ho0_23,ha1_23⟩:=LeafRp.sh hr23;refine .quiet (.p rfl) rfl (fun _=>.loadAgg isAgg120 zB rfl hp23) ?_;refine OD.v0 (.p rfl) zB rfl zB rfl rfl ((sameLeaf_c hr19 hr23)) ?_;refine OD.sF 25 rfl (by exact zdf e)<|zz 7 ?_;exact S.rt results112 rfl hR ⟨congrArg _ (zdf (not_same hi hi2 e)).symm,rfl⟩
  ·have hi:i=xs.length:=by omega
   clear ih;subst hi;rw [List.take_length,e0,List.take_length] at hx2;refine zz 5 ?_;exact S.rt results112 rfl hR ⟨by simp [hx2],rfl⟩
 ·
  refine zz 12 ?_;refine O.sT 10 rfl (by exact zdt zD)<|zz 6 ?_;exact S.rt results112 rfl hR ⟨congrArg _ (zdf (fun h=>e0 (by rw [h]))).symm,rfl⟩
theorem sameRoot_eq {x y:RootT} (h0:x.1=y.1) (h1:x.2.1=y.2.1) (h2:x.2.2.1=y.2.2.1) (h3:x.2.2.2.1=y.2.2.2.1) (h4:x.2.2.2.2.1=y.2.2.2.2.1):x=y:=by
 obtain ⟨a0,a1,a2,a3,a4,⟨⟩⟩:=x;obtain ⟨b0,b1,b2,b3,b4,⟨⟩⟩:=y
 simp_all
theorem sameRoot_c {r:Fr} {cs ds:List Value} {x y:RootT} (hx:RootRp.rel r cs x) (hy:RootRp.rel r ds y) :
  Con prog 46 #[.agg cs.toArray,.agg ds.toArray] r [] (Ret fun v η=>v=.bool (decide (x=y))∧η=[]):=by
 obtain ⟨xa3,xa4,xc3,xc4,rfl,xk0,xk1,xk2,xk3,xk4⟩:=RootRp.sh hx;obtain ⟨ya3,ya4,yc3,yc4,rfl,yk0,yk1,yk2,yk3,yk4⟩:=RootRp.sh hy;refine Con.o func46 fun g hg R hR=>?_;have xk3:=xk3.mono hg;have xk4:=xk4.mono hg;have yk3:=yk3.mono hg;have yk4:=yk4.mono hg;refine S.seq<|S.region rfl<|O.opE (.p rfl) (.box (cs:=[_,_,_,_,_]) rfl rfl) ?_;rintro _ _ ⟨b2,rfl,rfl⟩;refine O.opE (.p rfl) (.box (cs:=[_,_,_,_,_]) rfl rfl) ?_;rintro _ _ ⟨b3,rfl,rfl⟩;refine zz 10 ?_
 refine O.cs 10 rfl (fun h10=>?_) fun h10=>?_
 ·refine zz 7 ?_
  refine O.cs 17 rfl (fun h17=>?_) fun h17=>?_
  ·refine zz 7 ?_
   refine O.cs 24 rfl (fun h24=>?_) fun h24=>?_
   ·refine zz 4 ?_
    refine O.v0 (.g rfl rfl) rfl zB rfl rfl (SameBytes_c zA zA)<|zz 2 ?_
    refine O.cs 31 rfl (fun h31=>?_) fun h31=>?_
    ·refine zz 4 ?_
     refine O.v0 (.g rfl rfl) rfl zB rfl rfl (SameBytes_c zA zA) ?_;refine O.q 2 rfl<|O.nil<|S.ret results46 rfl fun w hw=>Holds.end_ hR hw ?_
     first|exact ⟨_,⟨congrArg _ (zdf (fun e=>by subst e;exact absurd rfl zF)).symm,rfl⟩,zM⟩|exact ⟨_,⟨congrArg _ (decide_eq_decide.2 ⟨fun e=>sameRoot_eq zF zF zF zF e,fun e=>by rw [e]⟩),rfl⟩,zM⟩
    ·refine O.q 7 rfl<|O.nil<|S.ret results46 rfl fun w hw=>Holds.end_ hR hw ?_
     first|exact ⟨_,⟨congrArg _ (zdf (fun e=>by subst e;exact absurd rfl zF)).symm,rfl⟩,zM⟩|exact ⟨_,⟨congrArg _ (decide_eq_decide.2 ⟨fun e=>sameRoot_eq zF zF zF zF e,fun e=>by rw [e]⟩),rfl⟩,zM⟩
   ·refine O.q 14 rfl<|O.nil<|S.ret results46 rfl fun w hw=>Holds.end_ hR hw ?_
    first|exact ⟨_,⟨congrArg _ (zdf (fun e=>by subst e;exact absurd rfl zF)).symm,rfl⟩,zM⟩|exact ⟨_,⟨congrArg _ (decide_eq_decide.2 ⟨fun e=>sameRoot_eq zF zF zF zF e,fun e=>by rw [e]⟩),rfl⟩,zM⟩
  ·refine O.q 21 rfl<|O.nil<|S.ret results46 rfl fun w hw=>Holds.end_ hR hw ?_
   first|exact ⟨_,⟨congrArg _ (zdf (fun e=>by subst e;exact absurd rfl zF)).symm,rfl⟩,zM⟩|exact ⟨_,⟨congrArg _ (decide_eq_decide.2 ⟨fun e=>sameRoot_eq zF zF zF zF e,fun e=>by rw [e]⟩),rfl⟩,zM⟩
 ·refine O.q 28 rfl<|O.nil<|S.ret results46 rfl fun w hw=>Holds.end_ hR hw ?_
  first|exact ⟨_,⟨congrArg _ (zdf (fun e=>by subst e;exact absurd rfl zF)).symm,rfl⟩,zM⟩|exact ⟨_,⟨congrArg _ (decide_eq_decide.2 ⟨fun e=>sameRoot_eq zF zF zF zF e,fun e=>by rw [e]⟩),rfl⟩,zM⟩
theorem sameEvidence_eq {x y:EvdT} (h0:x.1=y.1) (h1:x.2.1=y.2.1):x=y:=by
 obtain ⟨a0,a1,⟨⟩⟩:=x;obtain ⟨b0,b1,⟨⟩⟩:=y
 simp_all
theorem sameEvidence_c {r:Fr} {cs ds:List Value} {x y:EvdT} (hx:EvdRp.rel r cs x) (hy:EvdRp.rel r ds y) :
  Con prog 50 #[.agg cs.toArray,.agg ds.toArray] r [] (Ret fun v η=>v=.bool (decide (x=y))∧η=[]):=by
 obtain ⟨xa3,xa4,xa8,xa9,xc3,xc4,xc8,xc9,rfl,xk0,xk1,xk2,xk3,xk4,xk5,xk6,xk7,xk8,xk9⟩:=EvdRp.sh hx;obtain ⟨ya3,ya4,ya8,ya9,yc3,yc4,yc8,yc9,rfl,yk0,yk1,yk2,yk3,yk4,yk5,yk6,yk7,yk8,yk9⟩:=EvdRp.sh hy;refine Con.o func50 fun g hg R hR=>?_;have xk3:=xk3.mono hg;have xk4:=xk4.mono hg;have xk8:=xk8.mono hg;have xk9:=xk9.mono hg;have yk3:=yk3.mono hg;have yk4:=yk4.mono hg;have yk8:=yk8.mono hg;have yk9:=yk9.mono hg;refine S.seq<|S.region rfl<|O.opE (.p rfl) (.box (cs:=[_,_,_,_,_,_,_,_,_,_]) rfl rfl) ?_;rintro _ _ ⟨b2,rfl,rfl⟩;refine O.opE (.p rfl) (.box (cs:=[_,_,_,_,_,_,_,_,_,_]) rfl rfl) ?_;rintro _ _ ⟨b3,rfl,rfl⟩;refine zz 8 ?_;refine O.v0 (.p rfl) rfl zB rfl rfl ((sameRoot_c (x:=x.1) (y:=y.1) (RootRp.mk xk0 xk1 xk2 xk3 xk4) (RootRp.mk yk0 yk1 yk2 yk3 yk4))) ?_;refine zz 1 ?_
 refine O.cs 10 rfl (fun h10=>?_) fun h10=>?_
 ·refine zz 4 ?_
  refine O.v0 (.g rfl rfl) rfl zB rfl rfl ((sameRoot_c (x:=x.2.1) (y:=y.2.1) (RootRp.mk xk5 xk6 xk7 xk8 xk9) (RootRp.mk yk5 yk6 yk7 yk8 yk9))) ?_;refine O.q 2 rfl<|O.nil<|S.ret results50 rfl fun w hw=>Holds.end_ hR hw ?_
  first|exact ⟨_,⟨congrArg _ (zdf (fun e=>by subst e;exact absurd rfl zF)).symm,rfl⟩,zM⟩|exact ⟨_,⟨congrArg _ (decide_eq_decide.2 ⟨fun e=>sameEvidence_eq zF e,fun e=>by rw [e]⟩),rfl⟩,zM⟩
 ·refine O.q 7 rfl<|O.nil<|S.ret results50 rfl fun w hw=>Holds.end_ hR hw ?_
  first|exact ⟨_,⟨congrArg _ (zdf (fun e=>by subst e;exact absurd rfl zF)).symm,rfl⟩,zM⟩|exact ⟨_,⟨congrArg _ (decide_eq_decide.2 ⟨fun e=>sameEvidence_eq zF e,fun e=>by rw [e]⟩),rfl⟩,zM⟩
theorem u8_eqL {x y:UInt8} (h:(x.toNat:Int)=(y.toNat:Int)):x=y:=UInt8.toNat_inj.1 zD
noncomputable instance:DecidableEq FrmT:=Classical.typeDecidableEq _
theorem sameRows_c {r:Fr} {va vb:Value} {xs ys:List (List UInt8)} (ha:Arr (Rp.slice Rp.u8) r va xs) (hb:Arr (Rp.slice Rp.u8) r vb ys) :
  Con prog 110 #[va,vb] r [] (Ret fun v η=>v=.bool (decide (xs=ys))∧η=[]):=by
 have har:=ha;have hbr:=hb;refine Con.o func110 fun g hg R hR=>?_;have ha:=ha.mono hg;have hb:=hb.mono hg;have hbd:=ha.bound;obtain ⟨a1,c1,rfl⟩:=ha.shape;obtain ⟨a2,c2,rfl⟩:=hb.shape
 by_cases e0:xs.length=ys.length
 ·
  refine zz 12 ?_;refine O.sF 10 rfl (by exact zdf zD)<|zz 9 ?_;refine S.loopK (ι:=Nat) (fun i=>i≤xs.length∧xs.take i=ys.take i) (fun i=>[(5,.int .i64 (i:Int))]) [(0,_),(1,_)] (fun i=>[]) (fun i=>xs.length - i) (0) zG zq zq rfl fun i hx ih=>?_;have hm1:=meltRefl (g:=g);obtain ⟨hx1,hx2⟩:=hx;refine zz 8 ?_;refine S.cd rfl (fun h14=>?_) fun h14=>?_
  ·have hi:i<xs.length:=by omega
   have hi2:i<ys.length:=by omega
   by_cases e:xs[i]=ys[i]
   ·
    refine S.skip<|S.seq<|S.block<|S.seq<|S.regionD (L:=.range 10) F.mixed zB<|OD.q 2 rfl<|OD.ia (.p rfl) underlying28 size22 rfl rfl rfl zA (h:=fun p19 cs19 hp19 hr19=>?_);obtain ⟨v19,rfl,ha19⟩:=hr19;obtain ⟨a19,c19,rfl⟩:=ha19.shape;refine zz 1 ?_;refine OD.q 2 rfl<|OD.ia (.p rfl) underlying28 size22 rfl rfl rfl zA (h:=fun p23 cs23 hp23 hr23=>?_);obtain ⟨v23,rfl,ha23⟩:=hr23;obtain ⟨a23,c23,rfl⟩:=ha23.shape;refine zz 1 ?_;refine OD.v0 (.p rfl) zB rfl zB rfl rfl ((SameBytes_c ha19 ha23)) ?_;refine OD.sT 25 rfl (by exact zdt e)<|zz 10 ?_;exact S.wk (ih (i+1) (by exact ⟨by omega,take_same hi hi2 hx2 e⟩) zD)
   ·
    refine S.skip<|S.seq<|S.block<|S.seq<|S.regionD (L:=.range 10) F.mixed zB<|OD.q 2 rfl<|OD.ia (.p rfl) underlying28 size22 rfl rfl rfl zA (h:=fun p19 cs19 hp19 hr19=>?_);obtain ⟨v19,rfl,ha19⟩:=hr19;obtain ⟨a19,c19,rfl⟩:=ha19.shape;refine zz 1 ?_;refine OD.q 2 rfl<|OD.ia (.p rfl) underlying28 size22 rfl rfl rfl zA (h:=fun p23 cs23 hp23 hr23=>?_);obtain ⟨v23,rfl,ha23⟩:=hr23;obtain ⟨a23,c23,rfl⟩:=ha23.shape;refine zz 1 ?_;refine OD.v0 (.p rfl) zB rfl zB rfl rfl ((SameBytes_c ha19 ha23)) ?_;refine OD.sF 25 rfl (by exact zdf e)<|zz 7 ?_;exact S.rt results110 rfl hR ⟨congrArg _ (zdf (not_same hi hi2 e)).symm,rfl⟩
  ·have hi:i=xs.length:=by omega
   clear ih;subst hi;rw [List.take_length,e0,List.take_length] at hx2;refine zz 5 ?_;exact S.rt results110 rfl hR ⟨by simp [hx2],rfl⟩
 ·
  refine zz 12 ?_;refine O.sT 10 rfl (by exact zdt zD)<|zz 6 ?_;exact S.rt results110 rfl hR ⟨congrArg _ (zdf (fun h=>e0 (by rw [h]))).symm,rfl⟩
theorem sameStub_eq {x y:StubT} (h0:x.1=y.1) (h1:x.2.1=y.2.1):x=y:=by
 obtain ⟨a0,a1,⟨⟩⟩:=x;obtain ⟨b0,b1,⟨⟩⟩:=y
 simp_all
theorem sameStub_c {r:Fr} {cs ds:List Value} {x y:StubT} (hx:StubRp.rel r cs x) (hy:StubRp.rel r ds y) :
  Con prog 195 #[.agg cs.toArray,.agg ds.toArray] r [] (Ret fun v η=>v=.bool (decide (x=y))∧η=[]):=by
 obtain ⟨xa1,xc1,rfl,xk0,xk1⟩:=StubRp.sh hx;obtain ⟨ya1,yc1,rfl,yk0,yk1⟩:=StubRp.sh hy;refine Con.o func195 fun g hg R hR=>?_;have xk1:=xk1.mono hg;have yk1:=yk1.mono hg;refine S.seq<|S.region rfl<|O.opE (.p rfl) (.box (cs:=[_,_]) rfl rfl) ?_;rintro _ _ ⟨b2,rfl,rfl⟩;refine O.opE (.p rfl) (.box (cs:=[_,_]) rfl rfl) ?_;rintro _ _ ⟨b3,rfl,rfl⟩;refine zz 8 ?_;refine O.op (.p rfl) (.eqlS rfl rfl)<|O.q 1 rfl ?_
 refine O.cs 10 rfl (fun h10=>?_) fun h10=>?_
 ·refine zz 4 ?_
  refine O.v0 (.g rfl rfl) rfl zB rfl rfl (SameBytes_c zA zA) ?_;refine O.q 2 rfl<|O.nil<|S.ret results195 rfl fun w hw=>Holds.end_ hR hw ?_
  first|exact ⟨_,⟨congrArg _ (zdf (fun e=>by subst e;exact absurd rfl zF)).symm,rfl⟩,zM⟩|exact ⟨_,⟨congrArg _ (decide_eq_decide.2 ⟨fun e=>sameStub_eq (x:=x) (y:=y) (str_eqL zF) e,fun e=>by rw [e]⟩),rfl⟩,zM⟩
 ·refine O.q 7 rfl<|O.nil<|S.ret results195 rfl fun w hw=>Holds.end_ hR hw ?_
  first|exact ⟨_,⟨congrArg _ (zdf (fun e=>by subst e;exact absurd rfl zF)).symm,rfl⟩,zM⟩|exact ⟨_,⟨congrArg _ (decide_eq_decide.2 ⟨fun e=>sameStub_eq (x:=x) (y:=y) (str_eqL zF) e,fun e=>by rw [e]⟩),rfl⟩,zM⟩
theorem sameStubs_c {r:Fr} {va vb:Value} {xs ys:List StubT} (ha:Arr StubRp r va xs) (hb:Arr StubRp r vb ys) :
  Con prog 111 #[va,vb] r [] (Ret fun v η=>v=.bool (decide (xs=ys))∧η=[]):=by
 have har:=ha;have hbr:=hb;refine Con.o func111 fun g hg R hR=>?_;have ha:=ha.mono hg;have hb:=hb.mono hg;have hbd:=ha.bound;obtain ⟨a1,c1,rfl⟩:=ha.shape;obtain ⟨a2,c2,rfl⟩:=hb.shape
 by_cases e0:xs.length=ys.length
 ·
  refine zz 12 ?_;refine O.sF 10 rfl (by exact zdf zD)<|zz 9 ?_;refine S.loopK (ι:=Nat) (fun i=>i≤xs.length∧xs.take i=ys.take i) (fun i=>[(5,.int .i64 (i:Int))]) [(0,_),(1,_)] (fun i=>[]) (fun i=>xs.length - i) (0) zG zq zq rfl fun i hx ih=>?_;have hm1:=meltRefl (g:=g);obtain ⟨hx1,hx2⟩:=hx;refine zz 8 ?_;refine S.cd rfl (fun h14=>?_) fun h14=>?_
  ·have hi:i<xs.length:=by omega
   have hi2:i<ys.length:=by omega
   by_cases e:xs[i]=ys[i]
   ·
    refine S.skip<|S.seq<|S.block<|S.seq<|S.regionD (L:=.range 10) F.mixed zB<|OD.q 2 rfl<|OD.iy har hg (h:=fun p19 cs19 hp19 hrr19=>?_);have hr19:=Rp.rel.mono hrr19 hg;obtain ⟨sa1_19,sc1_19,rfl,ho0_19,ha1_19⟩:=StubRp.sh hr19;refine .quiet (.p rfl) rfl (fun _=>.loadAgg isAgg122 zB rfl hp19) ?_;refine OD.q 2 rfl<|OD.iy hbr hg (h:=fun p23 cs23 hp23 hrr23=>?_);have hr23:=Rp.rel.mono hrr23 hg;obtain ⟨sa1_23,sc1_23,rfl,ho0_23,ha1_23⟩:=StubRp.sh hr23;refine .quiet (.p rfl) rfl (fun _=>.loadAgg isAgg122 zB rfl hp23) ?_;refine OD.v0 (.p rfl) zB rfl zB rfl rfl ((sameStub_c hr19 hr23)) ?_;refine OD.sT 25 rfl (by exact zdt e)<|zz 10 ?_;exact S.wk (ih (i+1) (by exact ⟨by omega,take_same hi hi2 hx2 e⟩) zD)
   ·
    refine S.skip<|S.seq<|S.block<|S.seq<|S.regionD (L:=.range 10) F.mixed zB<|OD.q 2 rfl<|OD.iy har hg (h:=fun p19 cs19 hp19 hrr19=>?_);have hr19:=Rp.rel.mono hrr19 hg;obtain ⟨sa1_19,sc1_19,rfl,ho0_19,ha1_19⟩:=StubRp.sh hr19;refine .quiet (.p rfl) rfl (fun _=>.loadAgg isAgg122 zB rfl hp19) ?_;refine OD.q 2 rfl<|OD.iy hbr hg (h:=fun p23 cs23 hp23 hrr23=>?_);have hr23:=Rp.rel.mono hrr23 hg;obtain ⟨sa1_23,sc1_23,rfl,ho0_23,ha1_23⟩:=StubRp.sh hr23;refine .quiet (.p rfl) rfl (fun _=>.loadAgg isAgg122 zB rfl hp23) ?_;refine OD.v0 (.p rfl) zB rfl zB rfl rfl ((sameStub_c hr19 hr23)) ?_;refine OD.sF 25 rfl (by exact zdf e)<|zz 7 ?_;exact S.rt results111 rfl hR ⟨congrArg _ (zdf (not_same hi hi2 e)).symm,rfl⟩
  ·have hi:i=xs.length:=by omega
   clear ih;subst hi;rw [List.take_length,e0,List.take_length] at hx2;refine zz 5 ?_;exact S.rt results111 rfl hR ⟨by simp [hx2],rfl⟩
 ·
  refine zz 12 ?_;refine O.sT 10 rfl (by exact zdt zD)<|zz 6 ?_;exact S.rt results111 rfl hR ⟨congrArg _ (zdf (fun h=>e0 (by rw [h]))).symm,rfl⟩
theorem sameNode_eq {x y:NodeT} (h0:x.1=y.1) (h1:x.2.1=y.2.1) (h2:x.2.2.1=y.2.2.1) (h3:x.2.2.2.1=y.2.2.2.1):x=y:=by
 obtain ⟨a0,a1,a2,a3,⟨⟩⟩:=x;obtain ⟨b0,b1,b2,b3,⟨⟩⟩:=y
 simp_all
theorem sameNode_c {r:Fr} {cs ds:List Value} {x y:NodeT} (hx:NodeRp.rel r cs x) (hy:NodeRp.rel r ds y) :
  Con prog 48 #[.agg cs.toArray,.agg ds.toArray] r [] (Ret fun v η=>v=.bool (decide (x=y))∧η=[]):=by
 obtain ⟨xa1,xa2,xa3,xc1,xc2,xc3,rfl,xk1,xk2,xk3⟩:=NodeRp.sh hx;obtain ⟨ya1,ya2,ya3,yc1,yc2,yc3,rfl,yk1,yk2,yk3⟩:=NodeRp.sh hy;refine Con.o func48 fun g hg R hR=>?_;have xk1:=xk1.mono hg;have xk2:=xk2.mono hg;have xk3:=xk3.mono hg;have yk1:=yk1.mono hg;have yk2:=yk2.mono hg;have yk3:=yk3.mono hg;refine S.seq<|S.region rfl<|O.opE (.p rfl) (.box (cs:=[_,_,_,_]) rfl rfl) ?_;rintro _ _ ⟨b2,rfl,rfl⟩;refine O.opE (.p rfl) (.box (cs:=[_,_,_,_]) rfl rfl) ?_;rintro _ _ ⟨b3,rfl,rfl⟩;refine zz 10 ?_
 refine O.cs 10 rfl (fun h10=>?_) fun h10=>?_
 ·refine zz 4 ?_
  refine O.v0 (.g rfl rfl) rfl zB rfl rfl (SameBytes_c zA zA)<|zz 2 ?_
  refine O.cs 17 rfl (fun h17=>?_) fun h17=>?_
  ·refine zz 4 ?_
   refine O.v0 (.g rfl rfl) rfl zB rfl rfl (SameBytes_c zA zA)<|zz 2 ?_
   refine O.cs 24 rfl (fun h24=>?_) fun h24=>?_
   ·refine zz 4 ?_
    refine O.v0 (.g rfl rfl) rfl zB rfl rfl (sameLeaves_c zA zA) ?_;refine O.q 2 rfl<|O.nil<|S.ret results48 rfl fun w hw=>Holds.end_ hR hw ?_
    first|exact ⟨_,⟨congrArg _ (zdf (fun e=>by subst e;exact absurd rfl zF)).symm,rfl⟩,zM⟩|exact ⟨_,⟨congrArg _ (decide_eq_decide.2 ⟨fun e=>sameNode_eq (x:=x) (y:=y) (u8_eqL zF) zF zF e,fun e=>by rw [e]⟩),rfl⟩,zM⟩
   ·refine O.q 7 rfl<|O.nil<|S.ret results48 rfl fun w hw=>Holds.end_ hR hw ?_
    first|exact ⟨_,⟨congrArg _ (zdf (fun e=>by subst e;exact absurd rfl zF)).symm,rfl⟩,zM⟩|exact ⟨_,⟨congrArg _ (decide_eq_decide.2 ⟨fun e=>sameNode_eq (x:=x) (y:=y) (u8_eqL zF) zF zF e,fun e=>by rw [e]⟩),rfl⟩,zM⟩
  ·refine O.q 14 rfl<|O.nil<|S.ret results48 rfl fun w hw=>Holds.end_ hR hw ?_
   first|exact ⟨_,⟨congrArg _ (zdf (fun e=>by subst e;exact absurd rfl zF)).symm,rfl⟩,zM⟩|exact ⟨_,⟨congrArg _ (decide_eq_decide.2 ⟨fun e=>sameNode_eq (x:=x) (y:=y) (u8_eqL zF) zF zF e,fun e=>by rw [e]⟩),rfl⟩,zM⟩
 ·refine O.q 21 rfl<|O.nil<|S.ret results48 rfl fun w hw=>Holds.end_ hR hw ?_
  first|exact ⟨_,⟨congrArg _ (zdf (fun e=>by subst e;exact absurd rfl zF)).symm,rfl⟩,zM⟩|exact ⟨_,⟨congrArg _ (decide_eq_decide.2 ⟨fun e=>sameNode_eq (x:=x) (y:=y) (u8_eqL zF) zF zF e,fun e=>by rw [e]⟩),rfl⟩,zM⟩
theorem sameProof_eq {x y:PrfT} (h0:x.1=y.1) (h1:x.2.1=y.2.1):x=y:=by
 obtain ⟨a0,a1,⟨⟩⟩:=x;obtain ⟨b0,b1,⟨⟩⟩:=y
 simp_all
theorem sameProof_c {r:Fr} {cs ds:List Value} {x y:PrfT} (hx:PrfRp.rel r cs x) (hy:PrfRp.rel r ds y) :
  Con prog 47 #[.agg cs.toArray,.agg ds.toArray] r [] (Ret fun v η=>v=.bool (decide (x=y))∧η=[]):=by
 obtain ⟨xa0,xa1,xc0,xc1,rfl,xk0,xk1⟩:=PrfRp.sh hx;obtain ⟨ya0,ya1,yc0,yc1,rfl,yk0,yk1⟩:=PrfRp.sh hy;refine Con.o func47 fun g hg R hR=>?_;have xk0:=xk0.mono hg;have xk1:=xk1.mono hg;have yk0:=yk0.mono hg;have yk1:=yk1.mono hg;refine S.seq<|S.region rfl<|O.opE (.p rfl) (.box (cs:=[_,_]) rfl rfl) ?_;rintro _ _ ⟨b2,rfl,rfl⟩;refine O.opE (.p rfl) (.box (cs:=[_,_]) rfl rfl) ?_;rintro _ _ ⟨b3,rfl,rfl⟩;refine zz 8 ?_;refine O.v0 (.p rfl) rfl zB rfl rfl (sameRows_c zA zA) ?_;refine zz 1 ?_
 refine O.cs 10 rfl (fun h10=>?_) fun h10=>?_
 ·refine zz 4 ?_
  refine O.v0 (.g rfl rfl) rfl zB rfl rfl (sameStubs_c zA zA) ?_;refine O.q 2 rfl<|O.nil<|S.ret results47 rfl fun w hw=>Holds.end_ hR hw ?_
  first|exact ⟨_,⟨congrArg _ (zdf (fun e=>by subst e;exact absurd rfl zF)).symm,rfl⟩,zM⟩|exact ⟨_,⟨congrArg _ (decide_eq_decide.2 ⟨fun e=>sameProof_eq (x:=x) (y:=y) zF e,fun e=>by rw [e]⟩),rfl⟩,zM⟩
 ·refine O.q 7 rfl<|O.nil<|S.ret results47 rfl fun w hw=>Holds.end_ hR hw ?_
  first|exact ⟨_,⟨congrArg _ (zdf (fun e=>by subst e;exact absurd rfl zF)).symm,rfl⟩,zM⟩|exact ⟨_,⟨congrArg _ (decide_eq_decide.2 ⟨fun e=>sameProof_eq (x:=x) (y:=y) zF e,fun e=>by rw [e]⟩),rfl⟩,zM⟩
theorem sameFrame_eq {x y:FrmT} (h0:x.1=y.1) (h1:x.2.1=y.2.1) (h2:x.2.2.1=y.2.2.1) (h3:x.2.2.2.1=y.2.2.2.1) (h4:x.2.2.2.2.1=y.2.2.2.2.1) (h5:x.2.2.2.2.2.1=y.2.2.2.2.2.1) (h6:x.2.2.2.2.2.2.1=y.2.2.2.2.2.2.1) (h7:x.2.2.2.2.2.2.2.1=y.2.2.2.2.2.2.2.1) (h8:x.2.2.2.2.2.2.2.2.1=y.2.2.2.2.2.2.2.2.1) (h9:x.2.2.2.2.2.2.2.2.2.1=y.2.2.2.2.2.2.2.2.2.1) (h10:x.2.2.2.2.2.2.2.2.2.2.1=y.2.2.2.2.2.2.2.2.2.2.1) (h11:x.2.2.2.2.2.2.2.2.2.2.2.1=y.2.2.2.2.2.2.2.2.2.2.2.1):x=y:=by
 obtain ⟨a0,a1,a2,a3,a4,a5,a6,a7,a8,a9,a10,a11,⟨⟩⟩:=x;obtain ⟨b0,b1,b2,b3,b4,b5,b6,b7,b8,b9,b10,b11,⟨⟩⟩:=y
 simp_all
theorem sameFrame_c {r:Fr} {cs ds:List Value} {x y:FrmT} (hx:FrmRp.rel r cs x) (hy:FrmRp.rel r ds y) :
  Con prog 18 #[.agg cs.toArray,.agg ds.toArray] r [] (Ret fun v η=>v=.bool (decide (x=y))∧η=[]):=by
 obtain ⟨xa8,xa9,xa10,xa11,xa12,xa14,xa15,xa16,xa17,xa21,xa22,xa26,xa27,xc8,xc9,xc10,xc11,xc12,xc14,xc15,xc16,xc17,xc21,xc22,xc26,xc27,rfl,xk1,xk2,xk3,xk4,xk5,xk6,xk7,xk8,xk9,xk10,xk11,xk12,xk14,xk15,xk16,xk17,xk18,xk19,xk20,xk21,xk22,xk23,xk24,xk25,xk26,xk27,xk28⟩:=FrmRp.sh hx;obtain ⟨ya8,ya9,ya10,ya11,ya12,ya14,ya15,ya16,ya17,ya21,ya22,ya26,ya27,yc8,yc9,yc10,yc11,yc12,yc14,yc15,yc16,yc17,yc21,yc22,yc26,yc27,rfl,yk1,yk2,yk3,yk4,yk5,yk6,yk7,yk8,yk9,yk10,yk11,yk12,yk14,yk15,yk16,yk17,yk18,yk19,yk20,yk21,yk22,yk23,yk24,yk25,yk26,yk27,yk28⟩:=FrmRp.sh hy;refine Con.o func18 fun g hg R hR=>?_;have xk8:=xk8.mono hg;have xk9:=xk9.mono hg;have xk10:=xk10.mono hg;have xk11:=xk11.mono hg;have xk12:=xk12.mono hg;have xk14:=xk14.mono hg;have xk15:=xk15.mono hg;have xk16:=xk16.mono hg;have xk17:=xk17.mono hg;have xk21:=xk21.mono hg;have xk22:=xk22.mono hg;have xk26:=xk26.mono hg;have xk27:=xk27.mono hg;have yk8:=yk8.mono hg;have yk9:=yk9.mono hg;have yk10:=yk10.mono hg;have yk11:=yk11.mono hg;have yk12:=yk12.mono hg;have yk14:=yk14.mono hg;have yk15:=yk15.mono hg;have yk16:=yk16.mono hg;have yk17:=yk17.mono hg;have yk21:=yk21.mono hg;have yk22:=yk22.mono hg;have yk26:=yk26.mono hg;have yk27:=yk27.mono hg
 refine S.seq<|S.region rfl<|O.opE (.p rfl) (.box (cs:=[_,_,_,_,_,_,_,_,_,_,_,_,_,_,_,_,_,_,_,_,_,_,_,_,_,_,_,_,_]) rfl rfl) ?_;rintro _ _ ⟨b2,rfl,rfl⟩;refine O.opE (.p rfl) (.box (cs:=[_,_,_,_,_,_,_,_,_,_,_,_,_,_,_,_,_,_,_,_,_,_,_,_,_,_,_,_,_]) rfl rfl) ?_;rintro _ _ ⟨b3,rfl,rfl⟩;refine zz 10 ?_
 refine O.cs 10 rfl (fun h10=>?_) fun h10=>?_
 ·refine zz 7 ?_
  refine O.cs 17 rfl (fun h17=>?_) fun h17=>?_
  ·refine zz 7 ?_
   refine O.cs 24 rfl (fun h24=>?_) fun h24=>?_
   ·refine zz 4 ?_
    refine O.op (.g rfl rfl) (.eqlS rfl rfl)<|O.q 2 rfl ?_
    refine O.cs 31 rfl (fun h31=>?_) fun h31=>?_
    ·refine zz 4 ?_
     refine O.op (.g rfl rfl) (.eqlS rfl rfl)<|O.q 2 rfl ?_
     refine O.cs 38 rfl (fun h38=>?_) fun h38=>?_
     ·refine zz 4 ?_
      refine O.v0 (.g rfl rfl) rfl zB rfl rfl ((sameRoot_c (x:=x.2.2.2.2.2.1) (y:=y.2.2.2.2.2.1) (RootRp.mk xk5 xk6 xk7 xk8 xk9) (RootRp.mk yk5 yk6 yk7 yk8 yk9)))<|zz 2 ?_
      refine O.cs 45 rfl (fun h45=>?_) fun h45=>?_
      ·refine zz 4 ?_
       refine O.v0 (.g rfl rfl) rfl zB rfl rfl ((sameProof_c (x:=x.2.2.2.2.2.2.2.1) (y:=y.2.2.2.2.2.2.2.1) (PrfRp.mk xk11 xk12) (PrfRp.mk yk11 yk12)))<|zz 2 ?_
       refine O.cs 52 rfl (fun h52=>?_) fun h52=>?_
       ·refine zz 4 ?_
        refine O.v0 (.g rfl rfl) rfl zB rfl rfl ((sameNode_c (x:=x.2.2.2.2.2.2.2.2.1) (y:=y.2.2.2.2.2.2.2.2.1) (NodeRp.mk xk14 xk15 xk16) (NodeRp.mk yk14 yk15 yk16)))<|zz 2 ?_
        refine O.cs 59 rfl (fun h59=>?_) fun h59=>?_
        ·refine zz 4 ?_
         refine O.v0 (.g rfl rfl) rfl zB rfl rfl (sameRecords_c zA zA)<|zz 2 ?_
         refine O.cs 66 rfl (fun h66=>?_) fun h66=>?_
         ·refine zz 4 ?_
          refine O.v0 (.g rfl rfl) rfl zB rfl rfl ((sameEvidence_c (x:=x.2.2.2.2.2.2.2.2.2.2.1) (y:=y.2.2.2.2.2.2.2.2.2.2.1) (EvdRp.mk xk18 xk19 xk20 xk21 xk22 xk23 xk24 xk25 xk26 xk27) (EvdRp.mk yk18 yk19 yk20 yk21 yk22 yk23 yk24 yk25 yk26 yk27)))<|zz 2 ?_
          refine O.cs 73 rfl (fun h73=>?_) fun h73=>?_
          ·refine zz 7 ?_
           refine O.cs 80 rfl (fun h80=>?_) fun h80=>?_
           ·refine zz 4 ?_
            refine O.v0 (.g rfl rfl) rfl zB rfl rfl (SameBytes_c zA zA) ?_;refine O.q 2 rfl<|O.nil<|S.ret results18 rfl fun w hw=>Holds.end_ hR hw ?_
            first|exact ⟨_,⟨congrArg _ (zdf (fun e=>by subst e;exact absurd rfl zF)).symm,rfl⟩,zM⟩|exact ⟨_,⟨congrArg _ (decide_eq_decide.2 ⟨fun e=>sameFrame_eq (x:=x) (y:=y) (u8_eqL zF) zF zF (str_eqL zF) (str_eqL zF) zF e zF zF zF zF zF,fun e=>by rw [e]⟩),rfl⟩,zM⟩
           ·refine O.q 7 rfl<|O.nil<|S.ret results18 rfl fun w hw=>Holds.end_ hR hw ?_
            first|exact ⟨_,⟨congrArg _ (zdf (fun e=>by subst e;exact absurd rfl zF)).symm,rfl⟩,zM⟩|exact ⟨_,⟨congrArg _ (decide_eq_decide.2 ⟨fun e=>sameFrame_eq (x:=x) (y:=y) (u8_eqL zF) zF zF (str_eqL zF) (str_eqL zF) zF e zF zF zF zF zF,fun e=>by rw [e]⟩),rfl⟩,zM⟩
          ·refine O.q 14 rfl<|O.nil<|S.ret results18 rfl fun w hw=>Holds.end_ hR hw ?_
           first|exact ⟨_,⟨congrArg _ (zdf (fun e=>by subst e;exact absurd rfl zF)).symm,rfl⟩,zM⟩|exact ⟨_,⟨congrArg _ (decide_eq_decide.2 ⟨fun e=>sameFrame_eq (x:=x) (y:=y) (u8_eqL zF) zF zF (str_eqL zF) (str_eqL zF) zF e zF zF zF zF zF,fun e=>by rw [e]⟩),rfl⟩,zM⟩
         ·refine O.q 21 rfl<|O.nil<|S.ret results18 rfl fun w hw=>Holds.end_ hR hw ?_
          first|exact ⟨_,⟨congrArg _ (zdf (fun e=>by subst e;exact absurd rfl zF)).symm,rfl⟩,zM⟩|exact ⟨_,⟨congrArg _ (decide_eq_decide.2 ⟨fun e=>sameFrame_eq (x:=x) (y:=y) (u8_eqL zF) zF zF (str_eqL zF) (str_eqL zF) zF e zF zF zF zF zF,fun e=>by rw [e]⟩),rfl⟩,zM⟩
        ·refine O.q 28 rfl<|O.nil<|S.ret results18 rfl fun w hw=>Holds.end_ hR hw ?_
         first|exact ⟨_,⟨congrArg _ (zdf (fun e=>by subst e;exact absurd rfl zF)).symm,rfl⟩,zM⟩|exact ⟨_,⟨congrArg _ (decide_eq_decide.2 ⟨fun e=>sameFrame_eq (x:=x) (y:=y) (u8_eqL zF) zF zF (str_eqL zF) (str_eqL zF) zF e zF zF zF zF zF,fun e=>by rw [e]⟩),rfl⟩,zM⟩
       ·refine O.q 35 rfl<|O.nil<|S.ret results18 rfl fun w hw=>Holds.end_ hR hw ?_
        first|exact ⟨_,⟨congrArg _ (zdf (fun e=>by subst e;exact absurd rfl zF)).symm,rfl⟩,zM⟩|exact ⟨_,⟨congrArg _ (decide_eq_decide.2 ⟨fun e=>sameFrame_eq (x:=x) (y:=y) (u8_eqL zF) zF zF (str_eqL zF) (str_eqL zF) zF e zF zF zF zF zF,fun e=>by rw [e]⟩),rfl⟩,zM⟩
      ·refine O.q 42 rfl<|O.nil<|S.ret results18 rfl fun w hw=>Holds.end_ hR hw ?_
       first|exact ⟨_,⟨congrArg _ (zdf (fun e=>by subst e;exact absurd rfl zF)).symm,rfl⟩,zM⟩|exact ⟨_,⟨congrArg _ (decide_eq_decide.2 ⟨fun e=>sameFrame_eq (x:=x) (y:=y) (u8_eqL zF) zF zF (str_eqL zF) (str_eqL zF) zF e zF zF zF zF zF,fun e=>by rw [e]⟩),rfl⟩,zM⟩
     ·refine O.q 49 rfl<|O.nil<|S.ret results18 rfl fun w hw=>Holds.end_ hR hw ?_
      first|exact ⟨_,⟨congrArg _ (zdf (fun e=>by subst e;exact absurd rfl zF)).symm,rfl⟩,zM⟩|exact ⟨_,⟨congrArg _ (decide_eq_decide.2 ⟨fun e=>sameFrame_eq (x:=x) (y:=y) (u8_eqL zF) zF zF (str_eqL zF) (str_eqL zF) zF e zF zF zF zF zF,fun e=>by rw [e]⟩),rfl⟩,zM⟩
    ·refine O.q 56 rfl<|O.nil<|S.ret results18 rfl fun w hw=>Holds.end_ hR hw ?_
     first|exact ⟨_,⟨congrArg _ (zdf (fun e=>by subst e;exact absurd rfl zF)).symm,rfl⟩,zM⟩|exact ⟨_,⟨congrArg _ (decide_eq_decide.2 ⟨fun e=>sameFrame_eq (x:=x) (y:=y) (u8_eqL zF) zF zF (str_eqL zF) (str_eqL zF) zF e zF zF zF zF zF,fun e=>by rw [e]⟩),rfl⟩,zM⟩
   ·refine O.q 63 rfl<|O.nil<|S.ret results18 rfl fun w hw=>Holds.end_ hR hw ?_
    first|exact ⟨_,⟨congrArg _ (zdf (fun e=>by subst e;exact absurd rfl zF)).symm,rfl⟩,zM⟩|exact ⟨_,⟨congrArg _ (decide_eq_decide.2 ⟨fun e=>sameFrame_eq (x:=x) (y:=y) (u8_eqL zF) zF zF (str_eqL zF) (str_eqL zF) zF e zF zF zF zF zF,fun e=>by rw [e]⟩),rfl⟩,zM⟩
  ·refine O.q 70 rfl<|O.nil<|S.ret results18 rfl fun w hw=>Holds.end_ hR hw ?_
   first|exact ⟨_,⟨congrArg _ (zdf (fun e=>by subst e;exact absurd rfl zF)).symm,rfl⟩,zM⟩|exact ⟨_,⟨congrArg _ (decide_eq_decide.2 ⟨fun e=>sameFrame_eq (x:=x) (y:=y) (u8_eqL zF) zF zF (str_eqL zF) (str_eqL zF) zF e zF zF zF zF zF,fun e=>by rw [e]⟩),rfl⟩,zM⟩
 ·refine O.q 77 rfl<|O.nil<|S.ret results18 rfl fun w hw=>Holds.end_ hR hw ?_
  first|exact ⟨_,⟨congrArg _ (zdf (fun e=>by subst e;exact absurd rfl zF)).symm,rfl⟩,zM⟩|exact ⟨_,⟨congrArg _ (decide_eq_decide.2 ⟨fun e=>sameFrame_eq (x:=x) (y:=y) (u8_eqL zF) zF zF (str_eqL zF) (str_eqL zF) zF e zF zF zF zF zF,fun e=>by rw [e]⟩),rfl⟩,zM⟩
def marks2 (n:Nat):List UInt8:=(List.range n).map fun (i:Nat)=>markB 2 (i:Int)
@[simp] theorem marks2_length (n:Nat):(marks2 n).length=n:=by simp [marks2]
def rowMarks (n:Nat):List (List UInt8):=(List.range n).map fun (i:Nat)=>markT 1 (i:Int)
@[simp] theorem rowMarks_length (n:Nat):(rowMarks n).length=n:=by simp [rowMarks]
def ArrW_q (v:Value) (xs:List UInt8):SProp:=fun m=>Arr Rp.u8 m v xs
abbrev tys:Tys:=⟨5,3,22,115,118,120,122,35,31,27,38,41,255⟩
def SetK (b:List UInt8) (v:Value) (η:List SProp):Prop:=∃ l a c,sGet b=some l∧v=.slice a l.length c∧η=[ListP (RecG tys) 118 (.slice a l.length c) l]
theorem recG_sat {x:RecT} {v3 v5 v6:Value} {m:Fr} (h:recOk x=true) (hs:Sat (recWs x v3 v5 v6) m):(RecG tys).own (recV x v3 v5 v6) x m:=by
 have h1:=shaped_iff.1 (recOk_iff.1 h).1;have hd:=dotOk_iff.1 h1.2.2.1;simp only [rDot] at hd;exact RecG.mk zD ⟨by omega,by omega⟩ ⟨by omega,by omega⟩ hs
theorem sget1_c {r:Fr} {p:Nat} {va:Value} {b:List UInt8} (hp:At r ⟨p,0,none⟩ [va]) (ha:Arr Rp.u8 r va b) (hl:b.length≤1000000000) :
  Con prog 323 (#[]++#[]++#[.pointer (some ⟨p,0,none⟩)]) r [] (RetP (fun v η=>SetK b v η) (fun ch η=>∃ z,ch=errP 39 z∧(sGet b=none∧z=4)∧η=[])):=by
 refine Con.of (n:=37) [.pointer (some ⟨p,0,none⟩)] rfl func323 rfl rfl rfl fun g hg R hR=>?_;have hp:=hp.mono hg;have ha:=ha.mono hg;have hbd:=ha.bound;obtain ⟨a1,c1,rfl⟩:=ha.shape;refine zz 7 ?_;refine O.call0 (.p rfl) rfl zB rfl rfl (rdNew_c zA zH) ?_;rintro _ _ ⟨b7,rfl,rfl⟩;refine zz 12 ?_;refine O.op (.p rfl) (.quo rfl rfl zD)<|O.slot 11 (v' :=.int .i64 ((b.length / 8:Nat):Int)) rfl (by rw [Int.tdiv_eq_ediv_of_nonneg zD,IntWalk.i64_in _ zD];rfl) ?_;refine O.vS (.p rfl) rfl zB rfl rfl zC (rdCount_c _)<|zz 3 ?_;obtain ⟨c,hc⟩:∃ c,(RS.mk true b).count ((b.length / 8:Nat):Int)=c:=⟨_,rfl⟩;rw [hc];have lc:c.2.rest.length≤1000000000:=by rw [← hc];exact Nat.le_trans (RS.count_len _ _) hl
 obtain ⟨n0,n8⟩:0≤c.1∧c.1≤((b.length / 8:Nat):Int):=by rw [← hc];exact RS.count_bd _ _ zD
 refine S.listNil (RecG tys) 118 ?_;refine S.loopK3 (ι:=Nat) (κ:=List RecT × RS) (υ:=Option Addr × Nat) (fun i x a=>i≤c.1.toNat∧setP b.length i c.2=some x) (fun i x a=>[(13,.int .i64 (i:Int)),(3,.slice a.1 x.1.length a.2)]) [(0,_),(2,_),(12,_)] (fun i x a=>[ListP (RecG tys) 118 (.slice a.1 x.1.length a.2) x.1,RdP 196 b7 x.2]) (fun i x a=>c.1.toNat - i) (0) (([],c.2)) ((none,0)) zV zq zq rfl fun i x a hx ih=>?_;have hm1:=meltRefl (g:=g);obtain ⟨hx1,hx2⟩:=hx;have hxl:=(setP_bad hx2).2;have hxr:=setP_len hx2;refine zz 5 ?_;refine S.cd rfl (fun h14=>?_) fun h14=>?_
 ·have hi:i<c.1.toNat:=by omega
  have hout:=RS.bytes_out (b.length:Int) x.2
  cases e:recGet (x.2.bytes b.length).1 with
  |none =>
   have hno:sGet b=none:=sGet_none hc (k:=i+1) zD (setP_stop hx2 e);refine zz 8 ?_;refine O.callS (.p rfl) rfl zB rfl rfl zC (rdBytes_c _ zH) ?_;rintro _ _ ⟨a19,c19,rfl,rfl⟩;refine O.frzA zC fun g hs hm ha19=>?_;replace hg:=zfs hg hs;replace hR:=melted hR hm
   try replace hp:=hp.mono hs
   try replace ha:=ha.mono hs
   replace hm1:=meltTrans hm1 hm;clear hs hm;refine O.v0 (.p rfl) rfl zB rfl rfl ((rGetN_c e ha19 zD)) ?_;refine O.q 3 rfl<|O.opE (.p rfl) (.alloc (cs:=[.string ⟨#[]⟩,.int .i64 0,.int .i64 0,.slice none 0 0,.bool false,.slice none 0 0,.slice none 0 0]) zeroValue118 rfl) ?_;rintro _ _ ⟨b4,rfl,rfl⟩;refine zz 7 ?_;refine O.sF 24 rfl zE ?_;refine O.callP0 (.p rfl) rfl zB rfl rfl (smust_c _) (fun ch η' w hX hW=>by (obtain ⟨_,rfl,rfl⟩:=hX;exact hR _ _ w ⟨4,rfl,⟨hno,rfl⟩,rfl⟩ hW.drop_all)) ?_;rintro _ _ ⟨hb25,rfl,rfl⟩;exact absurd hb25 zG
  |some z =>
   have hok:=(recGet_iff.1 e).1;refine zz 8 ?_;refine O.callS (.p rfl) rfl zB rfl rfl zC (rdBytes_c _ zH) ?_;rintro _ _ ⟨a19,c19,rfl,rfl⟩;refine O.frzA zC fun g hs hm ha19=>?_;replace hg:=zfs hg hs;replace hR:=melted hR hm
   try replace hp:=hp.mono hs
   try replace ha:=ha.mono hs
   replace hm1:=meltTrans hm1 hm;clear hs hm;refine O.call0 (.p rfl) rfl zB rfl rfl ((rGetY_c e ha19 zD)) ?_;rintro _ _ ⟨a3,c3,a5,c5,a6,c6,rfl,rfl⟩;refine O.q 3 rfl<|O.opE (.p rfl) (.alloc (cs:=[.string ⟨#[]⟩,.int .i64 0,.int .i64 0,.slice none 0 0,.bool false,.slice none 0 0,.slice none 0 0]) zeroValue118 rfl) ?_;rintro _ _ ⟨b4,rfl,rfl⟩;refine zz 7 ?_;refine O.sT 24 rfl zE ?_;refine O.callP0 (.p rfl) rfl zB rfl rfl (smust_c _) (fun ch η' w hX hW=>by (exact absurd hX.1 zG)) ?_;rintro _ _ ⟨hb25,rfl,rfl⟩;refine O.nil<|S.listOpen (k' :=7) rfl zC fun css hcl=>?_;rw [← hcl];refine zz 3 ?_;refine O.opE (.p rfl) (.litP (T:=(Rp.cells 7)) (ys:=[_]) underlying36 elem118 zE rfl rfl ⟨⟨rfl,rfl,by first|(simp;done)|(intro v hv;simp [Value.cells] at hv;rcases hv with rfl|rfl<;>rfl)|(refine List.forall_mem_cons.2 ⟨rfl,?_⟩;repeat (first|exact (fun _ h=>absurd h List.not_mem_nil)|refine List.forall_mem_cons.2 ⟨rfl,?_⟩))⟩,trivial⟩ zE) ?_;rintro _ _ ⟨a28,c28,rfl,rfl⟩;refine O.opE (.p rfl) (.appendO (T:=(Rp.cells 7)) underlying36 elem118 zE rfl rfl zC zC zH zH) ?_;rintro _ _ ⟨a29,c29,rfl,rfl⟩;refine zz 7 ?_
   refine S.foldS (A:=(RecG tys).own (recV z (.slice a3 z.2.2.2.1.length c3) (.slice a5 z.2.2.2.2.2.1.length c5) (.slice a6 z.2.2.2.2.2.2.1.length c6)) z) (bs:=recWs z (.slice a3 z.2.2.2.1.length c3) (.slice a5 z.2.2.2.2.2.1.length c5) (.slice a6 z.2.2.2.2.2.2.1.length c6)) zI (fun m h=>recG_sat hok h) ?_;refine S.listPut (G:=RecG tys) (k' :=7) rfl zC zC zC ?_;simp only [List.length_singleton];rw [show css.length+1=(x.1++[z]).length from by simp [hcl]];exact S.melt hm1 (S.pw (ih (i+1) ((x.1++[z],(x.2.bytes b.length).2)) ((a29,c29)) (by exact ⟨by omega,setP_next hx2 e⟩) zD))
 ·clear ih
  have hi:i=c.1.toNat:=by omega
  subst hi;have hgt:=sGet_eq hc hx2;obtain ⟨l,s⟩:=x
  cases e1:s.done with
  |false =>
   have hno:sGet b=none:=by rw [hgt,if_neg (fun q=>by rw [e1] at q;exact absurd q.1 zE)]
   refine zz 4 ?_;refine O.vS (.p rfl) rfl zB rfl rfl zC rdDone_c ?_;refine O.sF 32 rfl (by exact e1) ?_;refine O.callP0 (.p rfl) rfl zB rfl rfl (smust_c _) (fun ch η' w hX hW=>by (obtain ⟨_,rfl,rfl⟩:=hX;exact hR _ _ w ⟨4,rfl,⟨hno,rfl⟩,rfl⟩ hW.drop_all)) ?_;rintro _ _ ⟨hb33,rfl,rfl⟩;exact absurd hb33 zG
  |true =>
   refine zz 4 ?_;refine O.vS (.p rfl) rfl zB rfl rfl zC rdDone_c ?_;refine O.sT 32 rfl (by exact e1) ?_;refine O.callP0 (.p rfl) rfl zB rfl rfl (smust_c _) (fun ch η' w hX hW=>by (exact absurd hX.1 zG)) ?_;rintro _ _ ⟨hb33,rfl,rfl⟩;refine zz 2 ?_;have hg_q:=hg;have hR_q:=hR
   try have hp_q:=hp
   try have ha_q:=ha
   refine S.frzH (B:=ListP (RecG tys) 118 (.slice a.1 l.length a.2) l) zC fun gq hsq ⟨mq,hmq,hsmq⟩ hbq=>?_;replace hg:=zfs hg hsq;replace hR:=backR hR hbq
   try replace hp:=hp.mono hsq
   try replace ha:=ha.mono hsq
   have hlr:Arr RecRp gq.h (.slice a.1 l.length a.2) l:=(ListP.arr hmq).mono hsmq;refine zz 2 ?_;refine O.callP0 (.p rfl) rfl zB rfl rfl ((rowOf_c hlr (by simp only at hxl;omega))) (fun ch η' w hX hW=>by (obtain ⟨hb,rfl,rfl⟩:=hX;exact hR _ _ w ⟨4,rfl,⟨by rw [hgt,if_neg (fun q=>hb q.2)],rfl⟩,rfl⟩ hW.drop_all)) ?_;rintro _ _ ⟨hright,b35,rfl,rfl⟩;refine O.nil<|S.seq<|S.back hbq ?_;replace hg:=hg_q;replace hR:=hR_q
   try replace hp:=hp_q
   try replace ha:=ha_q
   clear hg_q hR_q;have hyes:sGet b=some l:=by rw [hgt,if_pos ⟨e1,hright⟩]
   refine zz 4 ?_;exact S.rt results323 rfl hR ⟨l,a.1,a.2,hyes,rfl,rfl⟩
def set_t (b:List UInt8) (v:Value) (η:List SProp):Prop:=(∃ u,SetK b u η∧v=.tuple #[u,.int .i64 0])∨(sGet b=none∧v=.tuple #[.slice none 0 0,.int .i64 4]∧η=[])
theorem sTriedG_c {r:Fr} {first cap:Array Value} {b:List UInt8} (con:Con prog 323 (first++#[]++cap) r [] (RetP (fun v η=>SetK b v η) (fun ch η=>∃ z,ch=errP 39 z∧(sGet b=none∧z=4)∧η=[]))) (h1:(Value.func (.func 323) first cap).oneCell' =true:=by rfl) :
  Con prog 322 #[.func (.func 323) first cap] r [] (Ret fun v η=>set_t b v η) :=
 (triedSS_c zB h1 (fun _ _ h=>by obtain ⟨l,a,c,_,rfl,_⟩:=h;rfl) con).mono (Ret.imp fun v η h=>by
  rcases h with ⟨u,h2,h3⟩|⟨z,⟨h2,rfl⟩,h3,h4⟩
  ·exact .inl ⟨u,h2,h3⟩
  ·exact .inr ⟨h2,h4,h3⟩)
theorem set_tY {b:List UInt8} {l:List RecT} {v:Value} {η:List SProp} (e:sGet b=some l) (h:set_t b v η):∃ a c,v=.tuple #[.slice a l.length c,.int .i64 0]∧η=[ListP (RecG tys) 118 (.slice a l.length c) l]:=by
 rcases h with ⟨_,⟨y,a,c,h1,rfl,rfl⟩,rfl⟩|⟨h1,_⟩
 ·rw [e] at h1;obtain rfl:=Option.some.inj h1;exact ⟨a,c,rfl,rfl⟩
 ·rw [e] at h1;cases h1
theorem set_tN {b:List UInt8} {v:Value} {η:List SProp} (e:sGet b=none) (h:set_t b v η):v=.tuple #[.slice none 0 0,.int .i64 4]∧η=[]:=by
 rcases h with ⟨_,⟨y,a,c,h1,_⟩,_⟩|⟨_,h1,h2⟩
 ·rw [e] at h1;cases h1
 ·exact ⟨h1,h2⟩
theorem sGet_c {r:Fr} {va:Value} {b:List UInt8} (ha:Arr Rp.u8 r va b) (hl:b.length≤1000000000):Con prog 285 #[va] r [] (Ret fun v η=>set_t b v η):=by
 refine Con.o func285 fun g hg R hR=>?_;have ha:=ha.mono hg;obtain ⟨a1,c1,rfl⟩:=ha.shape
 cases e:sGet b with
 |some x =>
  refine S.seq<|S.region rfl<|O.opE (.p rfl) (.box (cs:=[_]) rfl rfl) ?_;rintro _ _ ⟨b1,rfl,rfl⟩;refine O.frzO zC fun g hs hm hb1=>?_;replace hg:=zfs hg hs;replace hR:=melted hR hm
  try replace ha:=ha.mono hs
  clear hs hm;refine zz 6 ?_;refine O.call0 (.p rfl) rfl zB rfl rfl (((sTriedG_c (sget1_c hb1 ha hl)).mono (Ret.imp fun _ _ h=>set_tY e h))) ?_;rintro _ _ ⟨a5,c5,rfl,rfl⟩;refine O.q 4 rfl<|O.nil<|S.ret2 results285 rfl rfl fun w hw=>Holds.end_ hR hw ?_;exact pk (.inl ⟨_,⟨x,a5,c5,e,rfl,rfl⟩,rfl⟩)
 |none =>
  refine S.seq<|S.region rfl<|O.opE (.p rfl) (.box (cs:=[_]) rfl rfl) ?_;rintro _ _ ⟨b1,rfl,rfl⟩;refine O.frzO zC fun g hs hm hb1=>?_;replace hg:=zfs hg hs;replace hR:=melted hR hm
  try replace ha:=ha.mono hs
  clear hs hm;refine zz 6 ?_;refine O.v0 (.p rfl) rfl zB rfl rfl (((sTriedG_c (sget1_c hb1 ha hl)).mono (Ret.imp fun _ _ h=>set_tN e h))) ?_;refine O.q 4 rfl<|O.nil<|S.ret2 results285 rfl rfl fun w hw=>Holds.end_ hR hw ?_;exact pk (.inr ⟨e,rfl,rfl⟩)
end Go.Proofs.YtdjoggpacmpfnaaGreatDoor
