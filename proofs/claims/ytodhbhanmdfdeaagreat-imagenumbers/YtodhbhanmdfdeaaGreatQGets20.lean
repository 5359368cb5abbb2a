/- Texts of this proof. -/
import Derived.Test.YtodhbhanmdfdeaaGreatQBack
import Derived.Test.YtodhbhanmdfdeaaGreatQSpRs5
open Go Go.Sp Go.Proofs.Tryz
set_option maxRecDepth 100000
set_option maxHeartbeats 1000000
attribute [local irreducible] obj Own OwnP
namespace Go.Proofs.YtodhbhanmdfdeaaGreat
theorem refP_count {α:Type} {one:RS→α × RS} (s:RS):∀ n,(refP one n s).1.length≤n
 |0=>Nat.le_refl _
 |n+1=>by
  have:=refP_count (one:=one) s n;rw [refP]
  split
  ·simp only [List.length_append,List.length_singleton];omega
  ·omega
theorem evdO_in (b:List UInt8):InI64 (evdO b).1.1∧InI64 (evdO b).1.2.1∧InI64 (evdO b).1.2.2.1∧InI64 (evdO b).2.1.1∧InI64 (evdO b).2.1.2.1∧InI64 (evdO b).2.1.2.2.1:=by
 unfold evdO
 cases e:evdGet b with
 |none=>exact ⟨⟨by decide,by decide⟩,⟨by decide,by decide⟩,⟨by decide,by decide⟩,⟨by decide,by decide⟩,⟨by decide,by decide⟩,⟨by decide,by decide⟩⟩
 |some x =>
  obtain ⟨h1,h2,_⟩:=evdOk_iff.1 (evdGet_iff.1 e).1;have h3:=rootShape_iff.1 (rootOk_iff.1 h1).1;have h4:=rootShape_iff.1 (rootOk_iff.1 h2).1;simp only [Option.getD_some];exact ⟨⟨by omega,by omega⟩,⟨by omega,by omega⟩,⟨by omega,by omega⟩,⟨by omega,by omega⟩,⟨by omega,by omega⟩,⟨by omega,by omega⟩⟩
theorem r20get_c {r:Fr} {va:Value} {b:List UInt8} (ha:Arr Rp.u8 r va b) (hb:b.length≤24000) :
  Con prog 93 #[va] r [] (Ret fun v η=>∃ a0 c0 a1 c1 a2 c2 a3 c3,v=.tuple #[.agg (heldV (.slice a0 (hOut b).1.length c0) (.slice a1 (hOut b).2.1.length c1) (.slice a2 (hOut b).2.2.1.length c2) (.slice a3 (hOut b).2.2.2.1.length c3)).toArray,.int .i64 (hErr b)]∧η=heldWs (hOut b) (.slice a0 (hOut b).1.length c0) (.slice a1 (hOut b).2.1.length c1) (.slice a2 (hOut b).2.2.1.length c2) (.slice a3 (hOut b).2.2.2.1.length c3)):=by
 refine Con.o func93 fun g hg R hR=>?_;have ha:=ha.mono hg;have hbd:=ha.bound;obtain ⟨ax,cx,rfl⟩:=ha.shape;have ls0:(RS.mk true b).rest.length≤1000000000:=by simp only;omega
 refine S.seq<|S.region rfl<|O.opE (.p rfl) (.alloc (cs:=[.slice none 0 0,.slice none 0 0,.slice none 0 0,.slice none 0 0]) zeroValue27 rfl) ?_;rintro _ _ ⟨b2,rfl,rfl⟩;refine zz 5 ?_;refine O.call0 (.p rfl) rfl zB rfl rfl (rfNew_c zA zH) ?_;rintro _ _ ⟨b24,rfl,rfl⟩;refine zz 10 ?_;refine O.opE (.p rfl) (.alloc (cs:=[.slice none 0 0,.slice none 0 0,.slice none 0 0,.slice none 0 0]) zeroValue27 rfl) ?_;rintro _ _ ⟨b6,rfl,rfl⟩;refine zz 5 ?_;refine O.vS (.p rfl) rfl zB rfl rfl zC (rfCount_c _) ?_;refine O.q 1 rfl<|O.nil (S.seq (S.seq ?_));generalize hc0:(RS.mk true b).count (b.length:Int)=c0;have lc0:c0.2.rest.length≤1000000000:=by rw [← hc0];exact Nat.le_trans (RS.count_len _ _) ls0
 obtain ⟨n0_0,n8_0⟩:0≤c0.1∧c0.1≤(b.length:Int):=by rw [← hc0];exact RS.count_bd _ _ zD
 refine S.listNil (LeafG tys) 49 ?_;refine zz 4 ?_;refine S.keep [obj b6 27 [.slice none 0 0,.slice none 0 0,.slice none 0 0,.slice none 0 0],RfP 254 b24 c0.2,ListP (LeafG tys) 49 (.slice none 0 0) [],obj b2 27 [.slice none 0 0,.slice none 0 0,.slice none 0 0,.slice none 0 0]] zO ?_;refine S.loopK3 (ι:=Nat) (κ:=List LeafT × RS) (υ:=Option Addr × Nat) (fun i0 x0 a0=>i0≤c0.1.toNat∧refP (leafF (b.length:Int)) i0 c0.2=x0) (fun i0 x0 a0=>[(8,.int .i64 (i0:Int))]) [(0,_),(2,_),(4,_),(5,_),(6,_),(7,_)] (fun i0 x0 a0=>[obj b6 27 [.slice a0.1 x0.1.length a0.2,.slice none 0 0,.slice none 0 0,.slice none 0 0],RfP 254 b24 x0.2,ListP (LeafG tys) 49 (.slice a0.1 x0.1.length a0.2) x0.1,obj b2 27 [.slice none 0 0,.slice none 0 0,.slice none 0 0,.slice none 0 0]]) (fun i0 x0 a0=>c0.1.toNat - i0) (0) (([],c0.2)) ((none,0)) zW zq zq rfl fun i0 x0 a0 hx ih=>?_;have hm1:=meltRefl (g:=g);obtain ⟨hx1_0,hx2_0⟩:=hx;have hxr0:x0.2.rest.length≤1000000000:=by rw [← hx2_0];exact Nat.le_trans (refP_len (leafF_len _) _ _) lc0
 have hxl0:x0.1.length≤i0:=by rw [← hx2_0];exact refP_count _ _
 have hk1_0:=RS.bytes_out (b.length:Int) x0.2;have hk2_0:=RS.bytes_len (b.length:Int) x0.2;have hk3_0:=RS.bytes_out (b.length:Int) (x0.2.bytes (b.length:Int)).2
 by_cases q:i0<c0.1.toNat∧x0.2.good=true
 ·obtain ⟨hi,hgd⟩:=q
  refine zz 6 ?_;refine O.sT 32 rfl (by exact decide_eq_true zD) ?_;refine O.q 2 rfl<|O.vS (.g rfl rfl) rfl zB rfl rfl zC rfGood_c ?_;refine O.sT 35 rfl (by exact hgd) ?_;refine zz 10 ?_;refine O.callS (.p rfl) rfl zB rfl rfl zC (rfBytes_c _) ?_;rintro _ _ ⟨a41,c41,rfl,rfl⟩;refine O.toStrO (.p rfl) underlying31 underlying5 underlying9 rfl zC ?_;refine O.op (.p rfl) (.build (cs:=[_,_]) underlying49 rfl rfl rfl rfl rfl)<|O.opE (.p rfl) (.alloc (cs:=[.string ⟨#[]⟩,.slice none 0 0]) zeroValue49 rfl) ?_;rintro _ _ ⟨b9,rfl,rfl⟩;refine zz 6 ?_;refine O.callS (.p rfl) rfl zB rfl rfl zC (rfBytes_c _) ?_;rintro _ _ ⟨a46,c46,rfl,rfl⟩;refine O.frzA zC fun g hs hm ha46=>?_;replace hg:=Fr.sub_trans hg hs;replace hR:=melted hR hm
  try replace ha:=ha.mono hs
  replace hm1:=meltTrans hm1 hm;clear hs hm;refine zz 5 ?_;refine O.call0 (.p rfl) rfl zB rfl rfl ((r9get_c ha46 zD)) ?_;rintro _ _ ⟨a49,c49,rfl,rfl⟩;refine zz 5 ?_;refine O.nil<|S.objIs (b:=b9) (cs' :=[.string (str (x0.2.bytes (b.length:Int)).1),.slice a49 (setO ((x0.2.bytes (b.length:Int)).2.bytes (b.length:Int)).1).length c49]) zC rfl ?_;refine S.listOpen (G:=LeafG tys) (k' :=2) rfl zC fun css hcl=>?_;rw [← hcl];refine zz 4 ?_;refine O.opE (.p rfl) (.litP (T:=(Rp.cells 2)) (ys:=[_]) underlying22 elem49 zE rfl rfl ⟨⟨rfl,rfl,by first|(simp;done)|(intro v hv;simp [Value.cells] at hv;rcases hv with rfl|rfl<;>rfl)|(refine List.forall_mem_cons.2 ⟨rfl,?_⟩;repeat (first|exact (fun _ h=>absurd h List.not_mem_nil)|refine List.forall_mem_cons.2 ⟨rfl,?_⟩))⟩,trivial⟩ zE) ?_;rintro _ _ ⟨a56,c56,rfl,rfl⟩;refine O.opE (.p rfl) (.appendO (T:=(Rp.cells 2)) underlying22 elem49 zE rfl rfl zC zC zH zH) ?_;rintro _ _ ⟨a57,c57,rfl,rfl⟩;refine zz 9 ?_;refine S.foldS (A:=(LeafG tys).own [.string (str (x0.2.bytes (b.length:Int)).1),.slice a49 (setO ((x0.2.bytes (b.length:Int)).2.bytes (b.length:Int)).1).length c49] ((leafF (b.length:Int)) x0.2).1) (bs:=[ListP (RecG tys) 74 (.slice a49 (setO ((x0.2.bytes (b.length:Int)).2.bytes (b.length:Int)).1).length c49) (setO ((x0.2.bytes (b.length:Int)).2.bytes (b.length:Int)).1)]) zI (fun m h=>LeafG.mk zD h) ?_
  refine S.listPut (G:=LeafG tys) (k' :=2) rfl zC zC zC ?_;simp only [List.length_singleton];rw [show css.length+1=(x0.1++[((leafF (b.length:Int)) x0.2).1]).length from by simp [hcl]];exact S.melt hm1 (S.pw (ih (i0+1) ((x0.1++[((leafF (b.length:Int)) x0.2).1],((leafF (b.length:Int)) x0.2).2)) ((a57,c57)) (by exact ⟨by omega,refP_next hx2_0 hgd⟩) zD))
 ·clear ih
  have hr0:rowF (leafF (b.length:Int)) (b.length:Int) (RS.mk true b)=x0:=by
   unfold rowF;rw [hc0]
   by_cases q1:i0<c0.1.toNat
   ·exact refP_stop hx2_0 (Bool.eq_false_iff.2 fun h=>q ⟨q1,h⟩) zD
   ·rw [show c0.1.toNat=i0 from by omega];exact hx2_0
  refine S.cut3 (fun (w:Unit)=>True) (fun (w:Unit)=>[]) [(0,_),(2,_),(4,_),(5,_),(6,_)] (fun (w:Unit)=>[obj b6 27 [.slice a0.1 x0.1.length a0.2,.slice none 0 0,.slice none 0 0,.slice none 0 0],RfP 254 b24 x0.2,ListP (LeafG tys) 49 (.slice a0.1 x0.1.length a0.2) x0.1,obj b2 27 [.slice none 0 0,.slice none 0 0,.slice none 0 0,.slice none 0 0]]) zq (fun key=>?_) (fun w hx=>?_)
  ·have hm2:=meltRefl (g:=g)
   by_cases q1:i0<c0.1.toNat
   ·
    refine zz 6 ?_;refine O.sT 32 rfl (by exact decide_eq_true zD) ?_;refine O.q 2 rfl<|O.vS (.g rfl rfl) rfl zB rfl rfl zC rfGood_c ?_;refine O.sF 35 rfl (by exact Bool.eq_false_iff.2 fun h=>q ⟨q1,h⟩) ?_;refine zz 4 ?_;refine S.pk ?_ (S.weaken ?_ (key (()) zT))
    ·repeat (first|exact zpa|exact zpn|(apply zpc;focus (repeat (first|exact zh|apply zt)))|apply zps)
    repeat (first|exact Sub.nil|refine Sub.cons rfl ?_)
   ·
    refine zz 6 ?_;refine O.sF 32 rfl (by exact decide_eq_false zD) ?_;refine zz 7 ?_;refine S.pk ?_ (S.weaken ?_ (key (()) zT))
    ·repeat (first|exact zpa|exact zpn|(apply zpc;focus (repeat (first|exact zh|apply zt)))|apply zps)
    repeat (first|exact Sub.nil|refine Sub.cons rfl ?_)
  ·clear q
   have ls1:x0.2.rest.length≤1000000000:=hxr0;refine zz 4 ?_;refine O.vS (.p rfl) rfl zB rfl rfl zC (rfCount_c _) ?_;refine O.q 1 rfl<|O.nil (S.seq (S.seq ?_));generalize hc1:x0.2.count (b.length:Int)=c1;have lc1:c1.2.rest.length≤1000000000:=by rw [← hc1];exact Nat.le_trans (RS.count_len _ _) ls1
   obtain ⟨n0_1,n8_1⟩:0≤c1.1∧c1.1≤(b.length:Int):=by rw [← hc1];exact RS.count_bd _ _ zD
   refine S.listNil (RootG tys) 52 ?_;refine zz 4 ?_;refine S.keep [obj b6 27 [.slice a0.1 x0.1.length a0.2,.slice none 0 0,.slice none 0 0,.slice none 0 0],RfP 254 b24 c1.2,ListP (RootG tys) 52 (.slice none 0 0) [],ListP (LeafG tys) 49 (.slice a0.1 x0.1.length a0.2) x0.1,obj b2 27 [.slice none 0 0,.slice none 0 0,.slice none 0 0,.slice none 0 0]] zO ?_;refine S.loopK3 (ι:=Nat) (κ:=List RootT × RS) (υ:=Option Addr × Nat) (fun i1 x1 a1=>i1≤c1.1.toNat∧refP (rootF (b.length:Int)) i1 c1.2=x1) (fun i1 x1 a1=>[(11,.int .i64 (i1:Int))]) [(0,_),(2,_),(4,_),(5,_),(6,_),(7,_)] (fun i1 x1 a1=>[obj b6 27 [.slice a0.1 x0.1.length a0.2,.slice a1.1 x1.1.length a1.2,.slice none 0 0,.slice none 0 0],RfP 254 b24 x1.2,ListP (RootG tys) 52 (.slice a1.1 x1.1.length a1.2) x1.1,ListP (LeafG tys) 49 (.slice a0.1 x0.1.length a0.2) x0.1,obj b2 27 [.slice none 0 0,.slice none 0 0,.slice none 0 0,.slice none 0 0]]) (fun i1 x1 a1=>c1.1.toNat - i1) (0) (([],c1.2)) ((none,0)) zW zq zq rfl fun i1 x1 a1 hx ih=>?_;have hm2:=meltRefl (g:=g);obtain ⟨hx1_1,hx2_1⟩:=hx;have hxr1:x1.2.rest.length≤1000000000:=by rw [← hx2_1];exact Nat.le_trans (refP_len (rootF_len _) _ _) lc1
   have hxl1:x1.1.length≤i1:=by rw [← hx2_1];exact refP_count _ _
   have hk1_1:=RS.bytes_out (b.length:Int) x1.2;have hk2_1:=RS.bytes_len (b.length:Int) x1.2;have hk3_1:=RS.bytes_out (b.length:Int) (x1.2.bytes (b.length:Int)).2
   by_cases q:i1<c1.1.toNat∧x1.2.good=true
   ·obtain ⟨hi,hgd⟩:=q
    refine zz 6 ?_;refine O.sT 64 rfl (by exact decide_eq_true zD) ?_;refine O.q 2 rfl<|O.vS (.g rfl rfl) rfl zB rfl rfl zC rfGood_c ?_;refine O.sT 67 rfl (by exact hgd) ?_;refine zz 10 ?_;refine O.callS (.p rfl) rfl zB rfl rfl zC (rfBytes_c _) ?_;rintro _ _ ⟨a73,c73,rfl,rfl⟩;refine O.frzA zC fun g hs hm ha73=>?_;replace hg:=Fr.sub_trans hg hs;replace hR:=melted hR hm
    try replace ha:=ha.mono hs
    replace hm1:=meltTrans hm1 hm;replace hm2:=meltTrans hm2 hm;clear hs hm;refine zz 5 ?_;refine O.call0 (.p rfl) rfl zB rfl rfl ((r15get_c ha73 zD)) ?_;rintro _ _ ⟨a3_76,c3_76,a4_76,c4_76,rfl,rfl⟩;refine O.q 3 rfl<|O.opE (.p rfl) (.alloc (cs:=[.int .i64 0,.int .i64 0,.int .i64 0,.slice none 0 0,.slice none 0 0]) zeroValue52 rfl) ?_;rintro _ _ ⟨b13,rfl,rfl⟩;refine zz 1 ?_;refine O.q 1 rfl<|O.nil<|S.objIs (b:=b13) (cs' :=rootV (rootO (x1.2.bytes (b.length:Int)).1) (.slice a3_76 (rootO (x1.2.bytes (b.length:Int)).1).2.2.2.1.length c3_76) (.slice a4_76 (rootO (x1.2.bytes (b.length:Int)).1).2.2.2.2.1.length c4_76)) zC rfl ?_;refine S.listOpen (G:=RootG tys) (k' :=5) rfl zC fun css hcl=>?_;rw [← hcl];refine zz 4 ?_;refine O.opE (.p rfl) (.litP (T:=(Rp.cells 5)) (ys:=[_]) underlying23 elem52 zE rfl rfl ⟨⟨rfl,rfl,by first|(simp;done)|(intro v hv;simp [Value.cells] at hv;rcases hv with rfl|rfl<;>rfl)|(refine List.forall_mem_cons.2 ⟨rfl,?_⟩;repeat (first|exact (fun _ h=>absurd h List.not_mem_nil)|refine List.forall_mem_cons.2 ⟨rfl,?_⟩))⟩,trivial⟩ zE) ?_;rintro _ _ ⟨a82,c82,rfl,rfl⟩;refine O.opE (.p rfl) (.appendO (T:=(Rp.cells 5)) underlying23 elem52 zE rfl rfl zC zC zH zH) ?_;rintro _ _ ⟨a83,c83,rfl,rfl⟩;refine zz 9 ?_
    refine S.foldS (A:=(RootG tys).own (rootV (rootO (x1.2.bytes (b.length:Int)).1) (.slice a3_76 (rootO (x1.2.bytes (b.length:Int)).1).2.2.2.1.length c3_76) (.slice a4_76 (rootO (x1.2.bytes (b.length:Int)).1).2.2.2.2.1.length c4_76)) ((rootF (b.length:Int)) x1.2).1) (bs:=rootWs (rootO (x1.2.bytes (b.length:Int)).1) (.slice a3_76 (rootO (x1.2.bytes (b.length:Int)).1).2.2.2.1.length c3_76) (.slice a4_76 (rootO (x1.2.bytes (b.length:Int)).1).2.2.2.2.1.length c4_76)) zI (fun m h=>RootG.mk (rootO_in _).1 (rootO_in _).2.1 (rootO_in _).2.2 h) ?_;refine S.listPut (G:=RootG tys) (k' :=5) rfl zC zC zC ?_;simp only [List.length_singleton];rw [show css.length+1=(x1.1++[((rootF (b.length:Int)) x1.2).1]).length from by simp [hcl]];exact S.melt hm2 (S.pw (ih (i1+1) ((x1.1++[((rootF (b.length:Int)) x1.2).1],((rootF (b.length:Int)) x1.2).2)) ((a83,c83)) (by exact ⟨by omega,refP_next hx2_1 hgd⟩) zD))
   ·clear ih
    have hr1:rowF (rootF (b.length:Int)) (b.length:Int) x0.2=x1:=by
     unfold rowF;rw [hc1]
     by_cases q1:i1<c1.1.toNat
     ·exact refP_stop hx2_1 (Bool.eq_false_iff.2 fun h=>q ⟨q1,h⟩) zD
     ·rw [show c1.1.toNat=i1 from by omega];exact hx2_1
    refine S.cut3 (fun (w:Unit)=>True) (fun (w:Unit)=>[]) [(0,_),(2,_),(4,_),(5,_),(6,_)] (fun (w:Unit)=>[obj b6 27 [.slice a0.1 x0.1.length a0.2,.slice a1.1 x1.1.length a1.2,.slice none 0 0,.slice none 0 0],RfP 254 b24 x1.2,ListP (RootG tys) 52 (.slice a1.1 x1.1.length a1.2) x1.1,ListP (LeafG tys) 49 (.slice a0.1 x0.1.length a0.2) x0.1,obj b2 27 [.slice none 0 0,.slice none 0 0,.slice none 0 0,.slice none 0 0]]) zq (fun key=>?_) (fun w hx=>?_)
    ·have hm3:=meltRefl (g:=g)
     by_cases q1:i1<c1.1.toNat
     ·
      refine zz 6 ?_;refine O.sT 64 rfl (by exact decide_eq_true zD) ?_;refine O.q 2 rfl<|O.vS (.g rfl rfl) rfl zB rfl rfl zC rfGood_c ?_;refine O.sF 67 rfl (by exact Bool.eq_false_iff.2 fun h=>q ⟨q1,h⟩) ?_;refine zz 4 ?_;refine S.pk ?_ (S.weaken ?_ (key (()) zT))
      ·repeat (first|exact zpa|exact zpn|(apply zpc;focus (repeat (first|exact zh|apply zt)))|apply zps)
      repeat (first|exact Sub.nil|refine Sub.cons rfl ?_)
     ·
      refine zz 6 ?_;refine O.sF 64 rfl (by exact decide_eq_false zD) ?_;refine zz 7 ?_;refine S.pk ?_ (S.weaken ?_ (key (()) zT))
      ·repeat (first|exact zpa|exact zpn|(apply zpc;focus (repeat (first|exact zh|apply zt)))|apply zps)
      repeat (first|exact Sub.nil|refine Sub.cons rfl ?_)
    ·clear q
     have ls2:x1.2.rest.length≤1000000000:=hxr1;refine zz 4 ?_;refine O.vS (.p rfl) rfl zB rfl rfl zC (rfCount_c _) ?_;refine O.q 1 rfl<|O.nil (S.seq (S.seq ?_));generalize hc2:x1.2.count (b.length:Int)=c2;have lc2:c2.2.rest.length≤1000000000:=by rw [← hc2];exact Nat.le_trans (RS.count_len _ _) ls2
     obtain ⟨n0_2,n8_2⟩:0≤c2.1∧c2.1≤(b.length:Int):=by rw [← hc2];exact RS.count_bd _ _ zD
     refine S.listNil (EvdG tys) 55 ?_;refine zz 4 ?_;refine S.keep [obj b6 27 [.slice a0.1 x0.1.length a0.2,.slice a1.1 x1.1.length a1.2,.slice none 0 0,.slice none 0 0],RfP 254 b24 c2.2,ListP (EvdG tys) 55 (.slice none 0 0) [],ListP (LeafG tys) 49 (.slice a0.1 x0.1.length a0.2) x0.1,ListP (RootG tys) 52 (.slice a1.1 x1.1.length a1.2) x1.1,obj b2 27 [.slice none 0 0,.slice none 0 0,.slice none 0 0,.slice none 0 0]] zO ?_;refine S.loopK3 (ι:=Nat) (κ:=List EvdT × RS) (υ:=Option Addr × Nat) (fun i2 x2 a2=>i2≤c2.1.toNat∧refP (evdF (b.length:Int)) i2 c2.2=x2) (fun i2 x2 a2=>[(15,.int .i64 (i2:Int))]) [(0,_),(2,_),(4,_),(5,_),(6,_),(7,_)] (fun i2 x2 a2=>[obj b6 27 [.slice a0.1 x0.1.length a0.2,.slice a1.1 x1.1.length a1.2,.slice a2.1 x2.1.length a2.2,.slice none 0 0],RfP 254 b24 x2.2,ListP (EvdG tys) 55 (.slice a2.1 x2.1.length a2.2) x2.1,ListP (LeafG tys) 49 (.slice a0.1 x0.1.length a0.2) x0.1,ListP (RootG tys) 52 (.slice a1.1 x1.1.length a1.2) x1.1,obj b2 27 [.slice none 0 0,.slice none 0 0,.slice none 0 0,.slice none 0 0]]) (fun i2 x2 a2=>c2.1.toNat - i2) (0) (([],c2.2)) ((none,0)) zW zq zq rfl fun i2 x2 a2 hx ih=>?_;have hm3:=meltRefl (g:=g);obtain ⟨hx1_2,hx2_2⟩:=hx;have hxr2:x2.2.rest.length≤1000000000:=by rw [← hx2_2];exact Nat.le_trans (refP_len (evdF_len _) _ _) lc2
     have hxl2:x2.1.length≤i2:=by rw [← hx2_2];exact refP_count _ _
     have hk1_2:=RS.bytes_out (b.length:Int) x2.2;have hk2_2:=RS.bytes_len (b.length:Int) x2.2;have hk3_2:=RS.bytes_out (b.length:Int) (x2.2.bytes (b.length:Int)).2
     by_cases q:i2<c2.1.toNat∧x2.2.good=true
     ·obtain ⟨hi,hgd⟩:=q
      refine zz 6 ?_;refine O.sT 90 rfl (by exact decide_eq_true zD) ?_;refine O.q 2 rfl<|O.vS (.g rfl rfl) rfl zB rfl rfl zC rfGood_c ?_;refine O.sT 93 rfl (by exact hgd) ?_;refine zz 10 ?_;refine O.callS (.p rfl) rfl zB rfl rfl zC (rfBytes_c _) ?_;rintro _ _ ⟨a99,c99,rfl,rfl⟩;refine O.frzA zC fun g hs hm ha99=>?_;replace hg:=Fr.sub_trans hg hs;replace hR:=melted hR hm
      try replace ha:=ha.mono hs
      replace hm1:=meltTrans hm1 hm;replace hm2:=meltTrans hm2 hm;replace hm3:=meltTrans hm3 hm;clear hs hm;refine zz 5 ?_;refine O.call0 (.p rfl) rfl zB rfl rfl ((r16get_c ha99 zD)) ?_;rintro _ _ ⟨a3_102,c3_102,a4_102,c4_102,a8_102,c8_102,a9_102,c9_102,rfl,rfl⟩;refine O.q 3 rfl<|O.opE (.p rfl) (.alloc (cs:=[.int .i64 0,.int .i64 0,.int .i64 0,.slice none 0 0,.slice none 0 0,.int .i64 0,.int .i64 0,.int .i64 0,.slice none 0 0,.slice none 0 0]) zeroValue55 rfl) ?_;rintro _ _ ⟨b17,rfl,rfl⟩;refine zz 1 ?_;refine O.q 1 rfl<|O.nil<|S.objIs (b:=b17) (cs' :=evdV (evdO (x2.2.bytes (b.length:Int)).1) (.slice a3_102 (evdO (x2.2.bytes (b.length:Int)).1).1.2.2.2.1.length c3_102) (.slice a4_102 (evdO (x2.2.bytes (b.length:Int)).1).1.2.2.2.2.1.length c4_102) (.slice a8_102 (evdO (x2.2.bytes (b.length:Int)).1).2.1.2.2.2.1.length c8_102) (.slice a9_102 (evdO (x2.2.bytes (b.length:Int)).1).2.1.2.2.2.2.1.length c9_102)) zC rfl ?_;refine S.listOpen (G:=EvdG tys) (k' :=10) rfl zC fun css hcl=>?_;rw [← hcl];refine zz 4 ?_;refine O.opE (.p rfl) (.litP (T:=(Rp.cells 10)) (ys:=[_]) underlying24 elem55 zE rfl rfl ⟨⟨rfl,rfl,by first|(simp;done)|(intro v hv;simp [Value.cells] at hv;rcases hv with rfl|rfl<;>rfl)|(refine List.forall_mem_cons.2 ⟨rfl,?_⟩;repeat (first|exact (fun _ h=>absurd h List.not_mem_nil)|refine List.forall_mem_cons.2 ⟨rfl,?_⟩))⟩,trivial⟩ zE) ?_;rintro _ _ ⟨a108,c108,rfl,rfl⟩
      refine O.opE (.p rfl) (.appendO (T:=(Rp.cells 10)) underlying24 elem55 zE rfl rfl zC zC zH zH) ?_;rintro _ _ ⟨a109,c109,rfl,rfl⟩;refine zz 9 ?_;refine S.foldS (A:=(EvdG tys).own (evdV (evdO (x2.2.bytes (b.length:Int)).1) (.slice a3_102 (evdO (x2.2.bytes (b.length:Int)).1).1.2.2.2.1.length c3_102) (.slice a4_102 (evdO (x2.2.bytes (b.length:Int)).1).1.2.2.2.2.1.length c4_102) (.slice a8_102 (evdO (x2.2.bytes (b.length:Int)).1).2.1.2.2.2.1.length c8_102) (.slice a9_102 (evdO (x2.2.bytes (b.length:Int)).1).2.1.2.2.2.2.1.length c9_102)) ((evdF (b.length:Int)) x2.2).1) (bs:=evdWs (evdO (x2.2.bytes (b.length:Int)).1) (.slice a3_102 (evdO (x2.2.bytes (b.length:Int)).1).1.2.2.2.1.length c3_102) (.slice a4_102 (evdO (x2.2.bytes (b.length:Int)).1).1.2.2.2.2.1.length c4_102) (.slice a8_102 (evdO (x2.2.bytes (b.length:Int)).1).2.1.2.2.2.1.length c8_102) (.slice a9_102 (evdO (x2.2.bytes (b.length:Int)).1).2.1.2.2.2.2.1.length c9_102)) zI (fun m h=>EvdG.mk (evdO_in _).1 (evdO_in _).2.1 (evdO_in _).2.2.1 (evdO_in _).2.2.2.1 (evdO_in _).2.2.2.2.1 (evdO_in _).2.2.2.2.2 h) ?_;refine S.listPut (G:=EvdG tys) (k' :=10) rfl zC zC zC ?_;simp only [List.length_singleton];rw [show css.length+1=(x2.1++[((evdF (b.length:Int)) x2.2).1]).length from by simp [hcl]];exact S.melt hm3 (S.pw (ih (i2+1) ((x2.1++[((evdF (b.length:Int)) x2.2).1],((evdF (b.length:Int)) x2.2).2)) ((a109,c109)) (by exact ⟨by omega,refP_next hx2_2 hgd⟩) zD))
     ·clear ih
      have hr2:rowF (evdF (b.length:Int)) (b.length:Int) x1.2=x2:=by
       unfold rowF;rw [hc2]
       by_cases q1:i2<c2.1.toNat
       ·exact refP_stop hx2_2 (Bool.eq_false_iff.2 fun h=>q ⟨q1,h⟩) zD
       ·rw [show c2.1.toNat=i2 from by omega];exact hx2_2
      refine S.cut3 (fun (w:Unit)=>True) (fun (w:Unit)=>[]) [(0,_),(2,_),(4,_),(5,_),(6,_)] (fun (w:Unit)=>[obj b6 27 [.slice a0.1 x0.1.length a0.2,.slice a1.1 x1.1.length a1.2,.slice a2.1 x2.1.length a2.2,.slice none 0 0],RfP 254 b24 x2.2,ListP (EvdG tys) 55 (.slice a2.1 x2.1.length a2.2) x2.1,ListP (LeafG tys) 49 (.slice a0.1 x0.1.length a0.2) x0.1,ListP (RootG tys) 52 (.slice a1.1 x1.1.length a1.2) x1.1,obj b2 27 [.slice none 0 0,.slice none 0 0,.slice none 0 0,.slice none 0 0]]) zq (fun key=>?_) (fun w hx=>?_)
      ·have hm4:=meltRefl (g:=g)
       by_cases q1:i2<c2.1.toNat
       ·
        refine zz 6 ?_;refine O.sT 90 rfl (by exact decide_eq_true zD) ?_;refine O.q 2 rfl<|O.vS (.g rfl rfl) rfl zB rfl rfl zC rfGood_c ?_;refine O.sF 93 rfl (by exact Bool.eq_false_iff.2 fun h=>q ⟨q1,h⟩) ?_;refine zz 4 ?_;refine S.pk ?_ (S.weaken ?_ (key (()) zT))
        ·repeat (first|exact zpa|exact zpn|(apply zpc;focus (repeat (first|exact zh|apply zt)))|apply zps)
        repeat (first|exact Sub.nil|refine Sub.cons rfl ?_)
       ·
        refine zz 6 ?_;refine O.sF 90 rfl (by exact decide_eq_false zD) ?_;refine zz 7 ?_;refine S.pk ?_ (S.weaken ?_ (key (()) zT))
        ·repeat (first|exact zpa|exact zpn|(apply zpc;focus (repeat (first|exact zh|apply zt)))|apply zps)
        repeat (first|exact Sub.nil|refine Sub.cons rfl ?_)
      ·clear q
       have ls3:x2.2.rest.length≤1000000000:=hxr2;refine zz 4 ?_;refine O.vS (.p rfl) rfl zB rfl rfl zC (rfCount_c _) ?_;refine O.q 1 rfl<|O.nil (S.seq (S.seq ?_));generalize hc3:x2.2.count (b.length:Int)=c3;have lc3:c3.2.rest.length≤1000000000:=by rw [← hc3];exact Nat.le_trans (RS.count_len _ _) ls3
       obtain ⟨n0_3,n8_3⟩:0≤c3.1∧c3.1≤(b.length:Int):=by rw [← hc3];exact RS.count_bd _ _ zD
       refine S.addNil (T:=Rp.i64) (e:=3) ?_;refine zz 4 ?_;refine S.keep [obj b6 27 [.slice a0.1 x0.1.length a0.2,.slice a1.1 x1.1.length a1.2,.slice a2.1 x2.1.length a2.2,.slice none 0 0],RfP 254 b24 c3.2,OwnP Rp.i64 3 (.slice none 0 0) [],ListP (LeafG tys) 49 (.slice a0.1 x0.1.length a0.2) x0.1,ListP (RootG tys) 52 (.slice a1.1 x1.1.length a1.2) x1.1,ListP (EvdG tys) 55 (.slice a2.1 x2.1.length a2.2) x2.1,obj b2 27 [.slice none 0 0,.slice none 0 0,.slice none 0 0,.slice none 0 0]] zO ?_;refine S.loopK3 (ι:=Nat) (κ:=List Int × RS) (υ:=Option Addr × Nat) (fun i3 x3 a3=>i3≤c3.1.toNat∧refP RS.num i3 c3.2=x3) (fun i3 x3 a3=>[(19,.int .i64 (i3:Int))]) [(0,_),(2,_),(4,_),(6,_),(7,_)] (fun i3 x3 a3=>[obj b6 27 [.slice a0.1 x0.1.length a0.2,.slice a1.1 x1.1.length a1.2,.slice a2.1 x2.1.length a2.2,.slice a3.1 x3.1.length a3.2],RfP 254 b24 x3.2,OwnP Rp.i64 3 (.slice a3.1 x3.1.length a3.2) x3.1,ListP (LeafG tys) 49 (.slice a0.1 x0.1.length a0.2) x0.1,ListP (RootG tys) 52 (.slice a1.1 x1.1.length a1.2) x1.1,ListP (EvdG tys) 55 (.slice a2.1 x2.1.length a2.2) x2.1,obj b2 27 [.slice none 0 0,.slice none 0 0,.slice none 0 0,.slice none 0 0]]) (fun i3 x3 a3=>c3.1.toNat - i3) (0) (([],c3.2)) ((none,0)) zW zq zq rfl fun i3 x3 a3 hx ih=>?_;have hm4:=meltRefl (g:=g);obtain ⟨hx1_3,hx2_3⟩:=hx;have hxr3:x3.2.rest.length≤1000000000:=by rw [← hx2_3];exact Nat.le_trans (refP_len RS.num_len _ _) lc3
       have hxl3:x3.1.length≤i3:=by rw [← hx2_3];exact refP_count _ _
       obtain ⟨hn1_3,hn2_3⟩:=RS.num_in x3.2;have hk1_3:=RS.bytes_out (b.length:Int) x3.2;have hk2_3:=RS.bytes_len (b.length:Int) x3.2;have hk3_3:=RS.bytes_out (b.length:Int) (x3.2.bytes (b.length:Int)).2
       by_cases q:i3<c3.1.toNat∧x3.2.good=true
       ·obtain ⟨hi,hgd⟩:=q
        refine zz 6 ?_;refine O.sT 116 rfl (by exact decide_eq_true zD) ?_;refine O.q 2 rfl<|O.vS (.g rfl rfl) rfl zB rfl rfl zC rfGood_c ?_;refine O.sT 119 rfl (by exact hgd) ?_;refine zz 9 ?_;refine O.vS (.p rfl) rfl zB rfl rfl zC rfNumber_c ?_;refine zz 5 ?_;refine O.q 1 rfl<|O.opE (.p rfl) (.litP (T:=Rp.i64) (ys:=[_]) underlying25 elem3 zE rfl rfl ⟨⟨rfl,by first|assumption|(constructor<;>omega)⟩,trivial⟩ zE) ?_;rintro _ _ ⟨a128,c128,rfl,rfl⟩;refine O.opE (.p rfl) (.appendO (T:=Rp.i64) underlying25 elem3 zE rfl rfl zC zC zH zH) ?_;rintro _ _ ⟨a129,c129,rfl,rfl⟩;refine zz 9 ?_;rw [show x3.1.length+[x3.2.num.1].length=(x3.1++[x3.2.num.1]).length from by simp];exact S.pw (ih (i3+1) ((x3.1++[(RS.num x3.2).1],(RS.num x3.2).2)) ((a129,c129)) (by exact ⟨by omega,refP_next hx2_3 hgd⟩) zD)
       ·clear ih
        have hr3:rowF RS.num (b.length:Int) x2.2=x3:=by
         unfold rowF;rw [hc3]
         by_cases q1:i3<c3.1.toNat
         ·exact refP_stop hx2_3 (Bool.eq_false_iff.2 fun h=>q ⟨q1,h⟩) zD
         ·rw [show c3.1.toNat=i3 from by omega];exact hx2_3
        refine S.cut3 (fun (w:Unit)=>True) (fun (w:Unit)=>[]) [(0,_),(2,_),(4,_),(6,_)] (fun (w:Unit)=>[obj b6 27 [.slice a0.1 x0.1.length a0.2,.slice a1.1 x1.1.length a1.2,.slice a2.1 x2.1.length a2.2,.slice a3.1 x3.1.length a3.2],RfP 254 b24 x3.2,OwnP Rp.i64 3 (.slice a3.1 x3.1.length a3.2) x3.1,ListP (LeafG tys) 49 (.slice a0.1 x0.1.length a0.2) x0.1,ListP (RootG tys) 52 (.slice a1.1 x1.1.length a1.2) x1.1,ListP (EvdG tys) 55 (.slice a2.1 x2.1.length a2.2) x2.1,obj b2 27 [.slice none 0 0,.slice none 0 0,.slice none 0 0,.slice none 0 0]]) zq (fun key=>?_) (fun w hx=>?_)
        ·have hm5:=meltRefl (g:=g)
         by_cases q1:i3<c3.1.toNat
         ·
          refine zz 6 ?_;refine O.sT 116 rfl (by exact decide_eq_true zD) ?_;refine O.q 2 rfl<|O.vS (.g rfl rfl) rfl zB rfl rfl zC rfGood_c ?_;refine O.sF 119 rfl (by exact Bool.eq_false_iff.2 fun h=>q ⟨q1,h⟩) ?_;refine zz 4 ?_;refine S.pk ?_ (S.weaken ?_ (key (()) zT))
          ·repeat (first|exact zpa|exact zpn|(apply zpc;focus (repeat (first|exact zh|apply zt)))|apply zps)
          repeat (first|exact Sub.nil|refine Sub.cons rfl ?_)
         ·
          refine zz 6 ?_;refine O.sF 116 rfl (by exact decide_eq_false zD) ?_;refine zz 7 ?_;refine S.pk ?_ (S.weaken ?_ (key (()) zT))
          ·repeat (first|exact zpa|exact zpn|(apply zpc;focus (repeat (first|exact zh|apply zt)))|apply zps)
          repeat (first|exact Sub.nil|refine Sub.cons rfl ?_)
        ·clear q
         have ls4:x3.2.rest.length≤1000000000:=hxr3;refine zz 1 ?_;have hF:heldF (b.length:Int) ⟨true,b⟩=((x0.1,x1.1,x2.1,x3.1,()),x3.2):=by simp only [heldF,hr0,hr1,hr2,hr3]
         have hB:HeldB (x0.1,x1.1,x2.1,x3.1,()):=by have:=heldF_B (b:=b) (most:=(b.length:Int)) hb;rw [hF] at this;exact this
         have hGF:=hGet_F (b:=b) zD;rw [hF] at hGF;simp only at hGF;have hg_q0:=hg;have hR_q0:=hR
         try have ha_q0:=ha
         refine S.frzH (B:=ListP (LeafG tys) 49 (.slice a0.1 x0.1.length a0.2) x0.1) zC fun gq0 hsq0 ⟨mq0,hmq0,hsmq0⟩ hbq0=>?_;replace hg:=Fr.sub_trans hg hsq0;replace hR:=backR hR hbq0
         try replace ha:=ha.mono hsq0
         have ar0:Arr LeafRp gq0.h (.slice a0.1 x0.1.length a0.2) x0.1:=(ListP.arr hmq0).mono hsmq0;have hg_q1:=hg;have hR_q1:=hR
         try have ha_q1:=ha
         try have ar0_q1:=ar0
         refine S.frzH (B:=ListP (RootG tys) 52 (.slice a1.1 x1.1.length a1.2) x1.1) zC fun gq1 hsq1 ⟨mq1,hmq1,hsmq1⟩ hbq1=>?_;replace hg:=Fr.sub_trans hg hsq1;replace hR:=backR hR hbq1
         try replace ha:=ha.mono hsq1
         try replace ar0:=ar0.mono hsq1
         have ar1:Arr RootRp gq1.h (.slice a1.1 x1.1.length a1.2) x1.1:=(ListP.arr hmq1).mono hsmq1;have hg_q2:=hg;have hR_q2:=hR
         try have ha_q2:=ha
         try have ar0_q2:=ar0
         try have ar1_q2:=ar1
         refine S.frzH (B:=ListP (EvdG tys) 55 (.slice a2.1 x2.1.length a2.2) x2.1) zC fun gq2 hsq2 ⟨mq2,hmq2,hsmq2⟩ hbq2=>?_;replace hg:=Fr.sub_trans hg hsq2;replace hR:=backR hR hbq2
         try replace ha:=ha.mono hsq2
         try replace ar0:=ar0.mono hsq2
         try replace ar1:=ar1.mono hsq2
         have ar2:Arr EvdRp gq2.h (.slice a2.1 x2.1.length a2.2) x2.1:=(ListP.arr hmq2).mono hsmq2;have hg_q3:=hg;have hR_q3:=hR
         try have ha_q3:=ha
         try have ar0_q3:=ar0
         try have ar1_q3:=ar1
         try have ar2_q3:=ar2
         refine S.frzH (B:=OwnP Rp.i64 3 (.slice a3.1 x3.1.length a3.2) x3.1) zC fun gq3 hsq3 ⟨mq3,hmq3,hsmq3⟩ hbq3=>?_;replace hg:=Fr.sub_trans hg hsq3;replace hR:=backR hR hbq3
         try replace ha:=ha.mono hsq3
         try replace ar0:=ar0.mono hsq3
         try replace ar1:=ar1.mono hsq3
         try replace ar2:=ar2.mono hsq3
         have ar3:Arr Rp.i64 gq3.h (.slice a3.1 x3.1.length a3.2) x3.1:=hmq3.arr.mono hsmq3;have hrel:=HeldRp.mk ar0 ar1 ar2 ar3
         cases e0:x3.2.done with
         |false =>
          have g1:hGet b=none:=by rw [hGF];exact if_neg (fun q=>by rw [e0] at q;exact absurd q.1 zE)
          have o1:hOut b=([],[],[],[],()):=by simp [hOut,g1]
          have o2:hErr b=4:=by simp [hErr,g1]
          refine zz 2 ?_;refine O.call0 (.p rfl) rfl zB rfl rfl ((r20put_c hrel hB)) ?_;rintro _ _ ⟨a133,c133,rfl,rfl⟩;refine zz 10 ?_;refine O.vS (.p rfl) rfl zB rfl rfl zC rfDone_c ?_;refine O.sF 137 rfl (by exact e0) ?_;refine zz 15 ?_;refine S.back hbq3 ?_;replace hg:=hg_q3;replace hR:=hR_q3
          try replace ha:=ha_q3
          try replace ar0:=ar0_q3
          try replace ar1:=ar1_q3
          try replace ar2:=ar2_q3
          clear hg_q3 hR_q3;refine S.back hbq2 ?_;replace hg:=hg_q2;replace hR:=hR_q2
          try replace ha:=ha_q2
          try replace ar0:=ar0_q2
          try replace ar1:=ar1_q2
          clear hg_q2 hR_q2;refine S.back hbq1 ?_;replace hg:=hg_q1;replace hR:=hR_q1
          try replace ha:=ha_q1
          try replace ar0:=ar0_q1
          clear hg_q1 hR_q1;refine S.back hbq0 ?_;replace hg:=hg_q0;replace hR:=hR_q0
          try replace ha:=ha_q0
          clear hg_q0 hR_q0;refine S.addNil (T:=Rp.i64) (e:=3) ?_;refine S.listNil (EvdG tys) 55 ?_;refine S.listNil (RootG tys) 52 ?_;refine S.listNil (LeafG tys) 49 ?_;refine zz 1 ?_;refine O.op (.p rfl) (.build (cs:=[_,_,_,_]) underlying27 rfl rfl rfl rfl rfl) ?_;refine zz 1 ?_;refine O.q 1 rfl<|O.nil<|S.retCellT results93 rfl rfl zC (LoadsAs.agg isAgg27 zB) fun w hw=>Holds.end_ hR hw ?_;exact ⟨_,⟨none,0,none,0,none,0,none,0,by rw [o1,o2];rfl,rfl⟩,by rw [o1];exact by repeat (first|exact zpa|exact zpn|(apply zpc;focus (repeat (first|exact zh|apply zt)))|apply zps)⟩
         |true =>
          cases ew:imgW (x0.1,x1.1,x2.1,x3.1,()) with
          |none =>
           have g1:hGet b=none:=by rw [hGF];exact if_neg (fun q=>by rw [ew] at q;cases q.2)
           have o1:hOut b=([],[],[],[],()):=by simp [hOut,g1]
           have o2:hErr b=4:=by simp [hErr,g1]
           refine zz 2 ?_;refine O.call0 (.p rfl) rfl zB rfl rfl ((r20put_c hrel hB)) ?_;rintro _ _ ⟨a133,c133,rfl,rfl⟩;refine zz 10 ?_;refine O.vS (.p rfl) rfl zB rfl rfl zC rfDone_c ?_;refine O.sT 137 rfl (by exact e0) ?_;refine zz 4 ?_;refine O.sT 141 rfl (by simp [imgErr,ew]) ?_;refine zz 11 ?_;refine S.back hbq3 ?_;replace hg:=hg_q3;replace hR:=hR_q3
           try replace ha:=ha_q3
           try replace ar0:=ar0_q3
           try replace ar1:=ar1_q3
           try replace ar2:=ar2_q3
           clear hg_q3 hR_q3;refine S.back hbq2 ?_;replace hg:=hg_q2;replace hR:=hR_q2
           try replace ha:=ha_q2
           try replace ar0:=ar0_q2
           try replace ar1:=ar1_q2
           clear hg_q2 hR_q2;refine S.back hbq1 ?_;replace hg:=hg_q1;replace hR:=hR_q1
           try replace ha:=ha_q1
           try replace ar0:=ar0_q1
           clear hg_q1 hR_q1;refine S.back hbq0 ?_;replace hg:=hg_q0;replace hR:=hR_q0
           try replace ha:=ha_q0
           clear hg_q0 hR_q0;refine S.addNil (T:=Rp.i64) (e:=3) ?_;refine S.listNil (EvdG tys) 55 ?_;refine S.listNil (RootG tys) 52 ?_;refine S.listNil (LeafG tys) 49 ?_;refine zz 1 ?_;refine O.op (.p rfl) (.build (cs:=[_,_,_,_]) underlying27 rfl rfl rfl rfl rfl) ?_;refine zz 1 ?_;refine O.q 1 rfl<|O.nil<|S.retCellT results93 rfl rfl zC (LoadsAs.agg isAgg27 zB) fun w hw=>Holds.end_ hR hw ?_;exact ⟨_,⟨none,0,none,0,none,0,none,0,by rw [o1,o2];rfl,rfl⟩,by rw [o1];exact by repeat (first|exact zpa|exact zpn|(apply zpc;focus (repeat (first|exact zh|apply zt)))|apply zps)⟩
          |some out =>
           have e5:imgOut (x0.1,x1.1,x2.1,x3.1,())=out:=by simp [imgOut,ew]
           by_cases eb:out=b
           ·have g1:hGet b=some (x0.1,x1.1,x2.1,x3.1,()):=by rw [hGF];exact if_pos ⟨e0,by rw [ew,eb]⟩
            have o1:hOut b=(x0.1,x1.1,x2.1,x3.1,()):=by simp [hOut,g1]
            have o2:hErr b=0:=by simp [hErr,g1]
            refine zz 2 ?_;refine O.call0 (.p rfl) rfl zB rfl rfl ((r20put_c hrel hB)) ?_;rintro _ _ ⟨a133,c133,rfl,rfl⟩;rw [e5];refine zz 10 ?_;refine O.vS (.p rfl) rfl zB rfl rfl zC rfDone_c ?_;refine O.sT 137 rfl (by exact e0) ?_;refine zz 4 ?_;refine O.sF 141 rfl (by simp [imgErr,ew]) ?_;refine O.q 3 rfl<|O.toStrO (.g rfl rfl) underlying31 underlying5 underlying9 rfl zC ?_;refine O.q 1 rfl<|O.op (.g rfl rfl) (.toStr underlying31 underlying5 underlying9 rfl zA) ?_;refine O.op (.g rfl rfl) (.neqS rfl rfl)<|O.sF 148 rfl (by simp [eb]) ?_;refine zz 5 ?_;refine S.back hbq3 ?_;replace hg:=hg_q3;replace hR:=hR_q3
            try replace ha:=ha_q3
            try replace ar0:=ar0_q3
            try replace ar1:=ar1_q3
            try replace ar2:=ar2_q3
            clear hg_q3 hR_q3;refine S.back hbq2 ?_;replace hg:=hg_q2;replace hR:=hR_q2
            try replace ha:=ha_q2
            try replace ar0:=ar0_q2
            try replace ar1:=ar1_q2
            clear hg_q2 hR_q2;refine S.back hbq1 ?_;replace hg:=hg_q1;replace hR:=hR_q1
            try replace ha:=ha_q1
            try replace ar0:=ar0_q1
            clear hg_q1 hR_q1;refine S.back hbq0 ?_;replace hg:=hg_q0;replace hR:=hR_q0
            try replace ha:=ha_q0
            clear hg_q0 hR_q0;refine zz 3 ?_;refine O.q 1 rfl<|O.nil<|S.retCellT results93 rfl rfl zC (LoadsAs.agg isAgg27 zB) fun w hw=>Holds.end_ hR hw ?_;exact ⟨_,⟨a0.1,a0.2,a1.1,a1.2,a2.1,a2.2,a3.1,a3.2,by rw [o1,o2];rfl,rfl⟩,by rw [o1];exact by repeat (first|exact zpa|exact zpn|(apply zpc;focus (repeat (first|exact zh|apply zt)))|apply zps)⟩
           ·skip
            have g1:hGet b=none:=by rw [hGF];exact if_neg (fun q=>eb (by rw [ew] at q;exact Option.some.inj q.2))
            have o1:hOut b=([],[],[],[],()):=by simp [hOut,g1]
            have o2:hErr b=4:=by simp [hErr,g1]
            refine zz 2 ?_;refine O.call0 (.p rfl) rfl zB rfl rfl ((r20put_c hrel hB)) ?_;rintro _ _ ⟨a133,c133,rfl,rfl⟩;refine zz 10 ?_;refine O.vS (.p rfl) rfl zB rfl rfl zC rfDone_c ?_;refine O.sT 137 rfl (by exact e0) ?_;refine zz 4 ?_;refine O.sF 141 rfl (by simp [imgErr,ew]) ?_;refine O.q 3 rfl<|O.toStrO (.g rfl rfl) underlying31 underlying5 underlying9 rfl zC ?_;refine O.q 1 rfl<|O.op (.g rfl rfl) (.toStr underlying31 underlying5 underlying9 rfl zA) ?_;refine O.op (.g rfl rfl) (.neqS rfl rfl)<|O.sT 148 rfl (by (rw [e5];simp [str_inj,eb])) ?_;refine zz 4 ?_;refine S.back hbq3 ?_;replace hg:=hg_q3;replace hR:=hR_q3
            try replace ha:=ha_q3
            try replace ar0:=ar0_q3
            try replace ar1:=ar1_q3
            try replace ar2:=ar2_q3
            clear hg_q3 hR_q3;refine S.back hbq2 ?_;replace hg:=hg_q2;replace hR:=hR_q2
            try replace ha:=ha_q2
            try replace ar0:=ar0_q2
            try replace ar1:=ar1_q2
            clear hg_q2 hR_q2;refine S.back hbq1 ?_;replace hg:=hg_q1;replace hR:=hR_q1
            try replace ha:=ha_q1
            try replace ar0:=ar0_q1
            clear hg_q1 hR_q1;refine S.back hbq0 ?_;replace hg:=hg_q0;replace hR:=hR_q0
            try replace ha:=ha_q0
            clear hg_q0 hR_q0;refine S.addNil (T:=Rp.i64) (e:=3) ?_;refine S.listNil (EvdG tys) 55 ?_;refine S.listNil (RootG tys) 52 ?_;refine S.listNil (LeafG tys) 49 ?_;refine zz 1 ?_;refine O.op (.p rfl) (.build (cs:=[_,_,_,_]) underlying27 rfl rfl rfl rfl rfl) ?_;refine zz 1 ?_;refine O.q 1 rfl<|O.nil<|S.retCellT results93 rfl rfl zC (LoadsAs.agg isAgg27 zB) fun w hw=>Holds.end_ hR hw ?_;exact ⟨_,⟨none,0,none,0,none,0,none,0,by rw [o1,o2];rfl,rfl⟩,by rw [o1];exact by repeat (first|exact zpa|exact zpn|(apply zpc;focus (repeat (first|exact zh|apply zt)))|apply zps)⟩
theorem gets_c {r:Fr} {va:Value} {b:List UInt8} (ha:Arr Rp.u8 r va b) (hb:b.length≤24000):Con prog 26 #[va] r [] (Ret fun v η=>v=.bool true∧η=[]):=by
 refine Con.o func26 fun g hg R hR=>?_;have ha:=ha.mono hg;obtain ⟨ax,cx,rfl⟩:=ha.shape;refine zz 7 ?_;refine O.call0 (.p rfl) rfl zB rfl rfl ((hGetU_c ha zD (getB_small hb))) ?_;rintro _ _ ⟨a0,c0,a1,c1,a2,c2,a3,c3,rfl,rfl⟩;refine O.q 3 rfl<|O.opE (.p rfl) (.alloc (cs:=[.slice none 0 0,.slice none 0 0,.slice none 0 0,.slice none 0 0]) zeroValue27 rfl) ?_;rintro _ _ ⟨b3,rfl,rfl⟩;refine zz 4 ?_;refine S.objIs (b:=b3) (cs' :=[.slice a0 (hOut b).1.length c0,.slice a1 (hOut b).2.1.length c1,.slice a2 (hOut b).2.2.1.length c2,.slice a3 (hOut b).2.2.2.1.length c3]) zC rfl ?_;refine S.frzG (T:=LeafRp) rfl zC fun g hs hm z0=>?_;replace hg:=Fr.sub_trans hg hs;replace hR:=melted hR hm
 try replace ha:=ha.mono hs
 clear hs hm;refine S.frzG (T:=RootRp) rfl zC fun g hs hm z1=>?_;replace hg:=Fr.sub_trans hg hs;replace hR:=melted hR hm
 try replace ha:=ha.mono hs
 try replace z0:=z0.mono hs
 clear hs hm;refine S.frzG (T:=EvdRp) rfl zC fun g hs hm z2=>?_;replace hg:=Fr.sub_trans hg hs;replace hR:=melted hR hm
 try replace ha:=ha.mono hs
 try replace z0:=z0.mono hs
 try replace z1:=z1.mono hs
 clear hs hm;refine S.frzA zC fun g hs hm z3=>?_;replace hg:=Fr.sub_trans hg hs;replace hR:=melted hR hm
 try replace ha:=ha.mono hs
 try replace z0:=z0.mono hs
 try replace z1:=z1.mono hs
 try replace z2:=z2.mono hs
 clear hs hm;have hz:HeldRp.rel _ _ (hOut b):=HeldRp.mk z0 z1 z2 z3;refine S.frzO zC fun g hs hm h3=>?_;replace hg:=Fr.sub_trans hg hs;replace hR:=melted hR hm
 try replace ha:=ha.mono hs
 try replace z0:=z0.mono hs
 try replace z1:=z1.mono hs
 try replace z2:=z2.mono hs
 try replace z3:=z3.mono hs
 try replace hz:=hz.mono hs
 clear hs hm;refine zz 2 ?_;refine O.call0 (.p rfl) rfl zB rfl rfl ((r20get_c ha hb)) ?_;rintro _ _ ⟨d0,e0,d1,e1,d2,e2,d3,e3,rfl,rfl⟩;refine O.q 3 rfl<|O.opE (.p rfl) (.alloc (cs:=[.slice none 0 0,.slice none 0 0,.slice none 0 0,.slice none 0 0]) zeroValue27 rfl) ?_;rintro _ _ ⟨b5,rfl,rfl⟩;refine zz 4 ?_;refine S.objIs (b:=b5) (cs' :=[.slice d0 (hOut b).1.length e0,.slice d1 (hOut b).2.1.length e1,.slice d2 (hOut b).2.2.1.length e2,.slice d3 (hOut b).2.2.2.1.length e3]) zC rfl ?_;refine S.frzG (T:=LeafRp) rfl zC fun g hs hm y0=>?_;replace hg:=Fr.sub_trans hg hs;replace hR:=melted hR hm
 try replace ha:=ha.mono hs
 try replace z0:=z0.mono hs
 try replace z1:=z1.mono hs
 try replace z2:=z2.mono hs
 try replace z3:=z3.mono hs
 try replace hz:=hz.mono hs
 try replace h3:=h3.mono hs
 clear hs hm;refine S.frzG (T:=RootRp) rfl zC fun g hs hm y1=>?_;replace hg:=Fr.sub_trans hg hs;replace hR:=melted hR hm
 try replace ha:=ha.mono hs
 try replace z0:=z0.mono hs
 try replace z1:=z1.mono hs
 try replace z2:=z2.mono hs
 try replace z3:=z3.mono hs
 try replace hz:=hz.mono hs
 try replace h3:=h3.mono hs
 try replace y0:=y0.mono hs
 clear hs hm;refine S.frzG (T:=EvdRp) rfl zC fun g hs hm y2=>?_;replace hg:=Fr.sub_trans hg hs;replace hR:=melted hR hm
 try replace ha:=ha.mono hs
 try replace z0:=z0.mono hs
 try replace z1:=z1.mono hs
 try replace z2:=z2.mono hs
 try replace z3:=z3.mono hs
 try replace hz:=hz.mono hs
 try replace h3:=h3.mono hs
 try replace y0:=y0.mono hs
 try replace y1:=y1.mono hs
 clear hs hm;refine S.frzA zC fun g hs hm y3=>?_;replace hg:=Fr.sub_trans hg hs;replace hR:=melted hR hm
 try replace ha:=ha.mono hs
 try replace z0:=z0.mono hs
 try replace z1:=z1.mono hs
 try replace z2:=z2.mono hs
 try replace z3:=z3.mono hs
 try replace hz:=hz.mono hs
 try replace h3:=h3.mono hs
 try replace y0:=y0.mono hs
 try replace y1:=y1.mono hs
 try replace y2:=y2.mono hs
 clear hs hm;have hy:HeldRp.rel _ _ (hOut b):=HeldRp.mk y0 y1 y2 y3;refine S.frzO zC fun g hs hm h5=>?_;replace hg:=Fr.sub_trans hg hs;replace hR:=melted hR hm
 try replace ha:=ha.mono hs
 try replace z0:=z0.mono hs
 try replace z1:=z1.mono hs
 try replace z2:=z2.mono hs
 try replace z3:=z3.mono hs
 try replace hz:=hz.mono hs
 try replace h3:=h3.mono hs
 try replace y0:=y0.mono hs
 try replace y1:=y1.mono hs
 try replace y2:=y2.mono hs
 try replace y3:=y3.mono hs
 try replace hy:=hy.mono hs
 clear hs hm;refine zz 4 ?_;refine O.sT 19 rfl zG ?_;refine O.q 1 rfl<|O.op (.g rfl rfl) (.loadAgg isAgg27 zB rfl h3) ?_;refine O.op (.g rfl rfl) (.loadAgg isAgg27 zB rfl h5) ?_;refine O.v0 (.g rfl rfl) rfl zB rfl rfl ((sameHeld_c hz hy)) ?_;refine O.sT 23 rfl zG ?_;refine zz 3 ?_;exact S.rt results26 rfl hR ⟨rfl,rfl⟩
end Go.Proofs.YtodhbhanmdfdeaaGreat
