/- Texts of this proof. -/
import Derived.Test.YtodhbhanmdfdeaaGreatQSlaw5
import Derived.Test.YtodhbhanmdfdeaaGreatQCopyb
import Derived.Test.YtodhbhanmdfdeaaGreatQSpJoin4
open Go Go.Sp Go.Proofs.Tryz
set_option maxRecDepth 100000
set_option maxHeartbeats 1000000
attribute [local irreducible] obj Own OwnP
namespace Go.Proofs.YtodhbhanmdfdeaaGreat
theorem pick_natS (x:Int) {n:Nat} (hn:0<n):∃ k:Nat,pick x n=(k:Int)∧k<n:=by
 have b1:=Int.tmod_lt_of_pos x (show 0<(n:Int) by omega);have b2:=Int.lt_tmod_of_pos x (show 0<(n:Int) by omega);have b3:0≤pick x n∧pick x n<n:=by
  unfold pick
  split
  ·omega
  ·split<;>omega
 exact ⟨(pick x n).toNat,by omega,by omega⟩
theorem sOutY {l:List RecT} (h:SRight l):sOut l=sB l∧sErr l=0:=⟨by unfold sOut;rw [if_pos h],by unfold sErr;rw [if_pos h]⟩
theorem sOutN {l:List RecT} (h:¬ SRight l):sOut l=[]∧sErr l=4:=⟨by unfold sOut;rw [if_neg h],by unfold sErr;rw [if_neg h]⟩
theorem setY {b:List UInt8} {l:List RecT} (h:sGet b=some l):setO b=l∧setE b=0:=⟨by unfold setO;rw [h];rfl,by unfold setE;rw [h];rfl⟩
theorem setN {b:List UInt8} (h:sGet b=none):setO b=[]∧setE b=4:=⟨by unfold setO;rw [h];rfl,by unfold setE;rw [h];rfl⟩
theorem siblingBack_c {r:Fr} {va vb:Value} {xs:List RecT} {b:List UInt8} {cut:Int} (ha:Arr RecRp r va xs) (ho:xs.length≤big∧∀ x∈xs,RecOk big x) (hb:Arr Rp.u8 r vb b) :
  Con prog 13 #[va,vb,.int .i64 cut] r [] (Ret fun v η=>v=.bool true∧η=[]):=by
 obtain ⟨ay,cy,rfl⟩:=ha.shape;have hbd:=hb.bound;obtain ⟨ax,cx,rfl⟩:=hb.shape;refine Con.of (n:=116) _ rfl func13 rfl rfl rfl fun g hg R hR=>?_;have ha:=ha.mono hg;have hb:=hb.mono hg;refine S.seq<|S.region rfl<|O.q 1 rfl<|O.nil<|S.seq<|S.seq<|S.region rfl<|O.call0 (.p rfl) rfl zB rfl rfl (sawake_c) ?_;rintro _ _ ⟨rfl,rfl⟩
 try simp only [zx1,zx2,zx3]
 refine O.sT 19 rfl (by first|decide|simp) ?_;refine O.op (.p rfl) (.not rfl)<|O.nil<|S.condF rfl<|S.skip<|S.seq<|S.seq<|S.region rfl<|O.q 1 rfl<|O.opE (.p rfl) (.litP (T:=Rp.cells 1) (ys:=[[.slice ay xs.length cy]]) underlying65 elem47 zF rfl rfl ⟨⟨rfl,rfl,by first|(simp;done)|(intro v hv;simp [Value.cells] at hv;rcases hv with rfl|rfl<;>rfl)|(refine List.forall_mem_cons.2 ⟨rfl,?_⟩;repeat (first|exact (fun _ h=>absurd h List.not_mem_nil)|refine List.forall_mem_cons.2 ⟨rfl,?_⟩))⟩,trivial⟩ zF) ?_;rintro _ _ ⟨a22,c22,rfl,rfl⟩;refine O.frzA zC fun g hs hm ha22=>?_;replace hg:=Fr.sub_trans hg hs;replace hR:=melted hR hm
 try replace ha:=ha.mono hs
 try replace hb:=hb.mono hs
 clear hs hm;refine O.call0 (.p rfl) rfl zB rfl rfl ((great_c (ss:=[xs]) (Arr.ofCells ha22 ⟨⟨_,rfl,ha⟩,trivial⟩ rfl) (fun l hl=>by rw [List.mem_singleton.1 hl];exact ho) zJ)) ?_;rintro v23 _ ⟨gr,rfl,hgr,rfl⟩
 try simp only [zx1,zx2,zx3]
 refine O.q 1 rfl ?_
 first|refine O.caseD 24 rfl (fun h24=>?_) (fun h24=>?_)|refine O.caseB 24 rfl (fun h24=>?_) (fun h24=>?_)
 ·refine O.q 4 rfl<|O.nil<|S.condT rfl<|S.seq<|S.region rfl<|O.q 1 rfl<|O.nil ?_
  exact S.rt results13 rfl hR ⟨rfl,rfl⟩
 ·obtain ⟨hl,hk⟩:=recsOk_of (Nat.le_refl _) (hgr h24 xs List.mem_cons_self)
  have hol:=sOut_le hl;refine O.q 1 rfl<|O.op (.g rfl rfl) (.len rfl underlying31 rfl)<|O.op (.g rfl rfl) (.gtr rfl rfl)<|O.q 1 rfl<|O.nil ?_
  first|refine S.condD rfl (fun h28=>?_) (fun h28=>?_)|refine S.condB rfl (fun h28=>?_) (fun h28=>?_)
  ·refine S.seq<|S.region rfl<|O.q 1 rfl<|O.nil ?_
   exact S.rt results13 rfl hR ⟨rfl,rfl⟩
  ·have hsm:b.length≤20000:=by omega
   have hzl:=setO_le hsm;refine S.skip<|S.seq<|S.region rfl<|O.q 1 rfl<|O.call0 (.p rfl) rfl zB rfl rfl ((sGetU_c hb zE)) ?_;rintro _ _ ⟨a31,c31,rfl,rfl⟩
   try simp only [zx1,zx2,zx3]
   refine O.q 5 rfl<|O.nil<|S.seq<|S.seq<|S.frzG (T:=RecRp) rfl zC fun g hs hm hz=>?_;replace hg:=Fr.sub_trans hg hs;replace hR:=melted hR hm
   try replace ha:=ha.mono hs
   try replace hb:=hb.mono hs
   try replace ha22:=ha22.mono hs
   clear hs hm;refine S.cut2 (fun (u:Unit)=>True) (fun (u:Unit)=>[]) [(0,_),(1,_),(2,_)] (fun (u:Unit)=>[]) (.cons rfl (.cons rfl (.cons rfl (.nil)))) (fun key=>?_) (fun u hx=>?_)
   ·have hm1:=meltRefl (g:=g)
    cases e:sGet b with
    |some x =>
     obtain ⟨e1,e2⟩:=setY e;obtain ⟨ex,ex2⟩:=(sGet_iff zE).1 e;rw [← e1] at ex ex2;obtain ⟨e3,e4⟩:=sOutY ex;rw [ex2] at e3;rw [e2];refine S.region rfl<|O.q 1 rfl<|O.op (.p rfl) (.eql rfl rfl)<|O.sT 35 rfl zF ?_;refine O.nil<|S.condT rfl<|S.seq<|S.region rfl<|O.q 1 rfl<|O.call0 (.p rfl) rfl zB rfl rfl ((sPut_c hz zE)) ?_;rintro _ _ ⟨a38,c38,rfl,rfl⟩
     try simp only [zx1,zx2,zx3]
     rw [e3,e4];refine O.frzA zC fun g hs hm ha38=>?_;replace hg:=Fr.sub_trans hg hs;replace hR:=melted hR hm
     try replace ha:=ha.mono hs
     try replace hb:=hb.mono hs
     try replace ha22:=ha22.mono hs
     try replace hz:=hz.mono hs
     try replace hz:=hz.mono hs
     replace hm1:=meltTrans hm1 hm;clear hs hm;refine O.q 5 rfl<|O.nil<|S.seq<|S.region rfl<|O.q 1 rfl<|O.op (.p rfl) (.neq rfl rfl)<|O.sF 42 rfl zF ?_;refine O.q 2 rfl<|O.call0 (.g rfl rfl) rfl zB rfl rfl ((sRight_c hz zE)) ?_;rintro _ _ ⟨rfl,rfl⟩
     try simp only [zx1,zx2,zx3]
     refine O.sT 45 rfl (by exact decide_eq_true ex) ?_;refine O.op (.g rfl rfl) (.not rfl)<|O.q 4 rfl<|O.call0 (.g rfl rfl) rfl zB rfl rfl (SameBytes_c (by first|assumption|exact Arr.mono hg zD|exact Arr.left zD|exact Arr.left (Arr.mono hg zD)) (by first|assumption|exact Arr.mono hg zD|exact Arr.left zD|exact Arr.left (Arr.mono hg zD))) ?_;rintro _ _ ⟨rfl,rfl⟩
     try simp only [zx1,zx2,zx3]
     refine O.sT 51 rfl zJ ?_;refine O.op (.g rfl rfl) (.not rfl)<|O.q 1 rfl<|O.nil<|S.condF rfl<|S.skip<|S.pk ?_ (S.melt hm1 (S.weaken ?_ (key (()) (by trivial))))
     ·repeat (first|exact zpa|exact zpn|(apply zpc;focus (repeat (first|exact zh|apply zt)))|apply zps)
     repeat (first|exact Sub.nil|refine Sub.cons rfl ?_)
    |none =>
     obtain ⟨e1,e2⟩:=setN e;rw [e2];refine S.region rfl<|O.q 1 rfl<|O.op (.p rfl) (.eql rfl rfl)<|O.sF 35 rfl zF ?_;refine O.nil<|S.condF rfl<|S.skip<|S.pk ?_ (S.weaken ?_ (key (()) (by trivial)))
     ·repeat (first|exact zpa|exact zpn|(apply zpc;focus (repeat (first|exact zh|apply zt)))|apply zps)
     repeat (first|exact Sub.nil|refine Sub.cons rfl ?_)
   ·
    by_cases ew:SRight xs
    ·obtain ⟨e5,e6⟩:=sOutY ew
     rw [e5] at hol;have hp8:0<(sB xs).length:=by simp [sB];omega
     obtain ⟨o1,r1⟩:=setY (sGet_self ew zE);obtain ⟨k,hk1,hk2⟩:=pick_natS cut hp8;obtain ⟨o2,r2⟩:=setN (sGet_cut ew zE hk2);have hla:(sB xs++b).length≤1000000000:=by rw [List.length_append];omega
     have r3:b.length≠0→setE (sB xs++b)=4:=fun q=>(setN (sGet_more ew hla (fun w=>q (by rw [w];rfl)))).2;generalize hpp:sB xs=p at *;refine S.seq<|S.region rfl<|O.q 1 rfl<|O.call0 (.p rfl) rfl zB rfl rfl ((sPut_c ha zE)) ?_;rintro _ _ ⟨a56,c56,rfl,rfl⟩
     try simp only [zx1,zx2,zx3]
     rw [e5,e6];refine O.frzA zC fun g hs hm ha56=>?_;replace hg:=Fr.sub_trans hg hs;replace hR:=melted hR hm
     try replace ha:=ha.mono hs
     try replace hb:=hb.mono hs
     try replace ha22:=ha22.mono hs
     try replace hz:=hz.mono hs
     try replace hz:=hz.mono hs
     clear hs hm;refine O.q 5 rfl<|O.nil<|S.seq<|S.seq<|S.region rfl<|O.q 1 rfl<|O.call0 (.p rfl) rfl zB rfl rfl ((sRight_c ha zE)) ?_;rintro _ _ ⟨rfl,rfl⟩
     try simp only [zx1,zx2,zx3]
     refine O.sT 60 rfl (by exact decide_eq_true ew) ?_;refine O.op (.p rfl) (.not rfl)<|O.nil<|S.condF rfl<|S.skip<|S.seq<|S.region rfl<|O.q 1 rfl<|O.call0 (.p rfl) rfl zB rfl rfl ((sGetU_c ha56 zE)) ?_;rintro _ _ ⟨a71,c71,rfl,rfl⟩
     try simp only [zx1,zx2,zx3]
     rw [o1,r1];refine O.q 5 rfl<|O.nil<|S.seq<|S.frzG (T:=RecRp) rfl zC fun g hs hm hy=>?_;replace hg:=Fr.sub_trans hg hs;replace hR:=melted hR hm
     try replace ha:=ha.mono hs
     try replace hb:=hb.mono hs
     try replace ha22:=ha22.mono hs
     try replace hz:=hz.mono hs
     try replace hz:=hz.mono hs
     try replace ha56:=ha56.mono hs
     clear hs hm;refine S.region rfl<|O.q 3 rfl<|O.op (.p rfl) (.len rfl underlying31 rfl)<|O.call0 (.p rfl) rfl zB rfl rfl (Pick_c _ _ (by first|assumption|(constructor<;>omega))) ?_;rintro _ _ ⟨rfl,rfl⟩
     try simp only [zx1,zx2,zx3]
     refine O.slot 79 (v' :=.int .i64 (k:Int)) rfl (by (rw [hk1])) ?_;refine O.sliceTo (b:=k) (.p rfl) underlying31 size5 rfl rfl zD zI zI (fun u80 ha80=>?_);obtain ⟨a80,c80,rfl⟩:=ha80.shape;refine O.call0 (.p rfl) rfl zB rfl rfl ((sGetU_c (b:=p.take k) (by first|assumption|exact Arr.mono hg zD|exact Arr.left zD|exact Arr.left (Arr.mono hg zD)) (by rw [List.length_take];omega))) ?_;rintro _ _ ⟨a81,c81,rfl,rfl⟩
     try simp only [zx1,zx2,zx3]
     rw [r2];refine O.q 5 rfl<|O.nil<|S.seq<|S.region rfl<|O.q 1 rfl<|O.call0 (.p rfl) rfl zB rfl rfl (CopyBytes_c (by first|assumption|exact Arr.mono hg zD|exact Arr.left zD|exact Arr.left (Arr.mono hg zD)) zI) ?_;rintro _ _ ⟨a86,c86,rfl,rfl⟩
     try simp only [zx1,zx2,zx3]
     refine O.q 1 rfl<|O.opE (.p rfl) (.appendP (T:=Rp.u8) pure_u8 underlying31 elem5 zF rfl rfl zC (by first|assumption|exact Arr.mono hg zD|exact Arr.left zD|exact Arr.left (Arr.mono hg zD)) zI zI) ?_;rintro _ _ ⟨a88,c88,rfl,rfl⟩;refine O.frzA zC fun g hs hm ha88=>?_;replace hg:=Fr.sub_trans hg hs;replace hR:=melted hR hm
     try replace ha:=ha.mono hs
     try replace hb:=hb.mono hs
     try replace ha22:=ha22.mono hs
     try replace hz:=hz.mono hs
     try replace hz:=hz.mono hs
     try replace ha56:=ha56.mono hs
     try replace hy:=hy.mono hs
     try replace hy:=hy.mono hs
     try replace ha80:=ha80.mono hs
     clear hs hm;refine O.call0 (.p rfl) rfl zB rfl rfl ((sGetU_c (b:=p++b) ha88 hla)) ?_;rintro _ _ ⟨a89,c89,rfl,rfl⟩
     try simp only [zx1,zx2,zx3]
     refine O.q 5 rfl<|O.nil (S.seq ?_)
     by_cases h0:b.length=0
     ·
      refine S.region rfl<|O.q 1 rfl<|O.op (.p rfl) (.eql rfl rfl)<|O.sT 93 rfl zF ?_;refine O.q 2 rfl<|O.op (.g rfl rfl) (.eql rfl rfl)<|O.sT 96 rfl zF ?_;refine O.q 4 rfl<|O.call0 (.g rfl rfl) rfl zB rfl rfl ((sameRecords_c hy ha)) ?_;rintro _ _ ⟨rfl,rfl⟩
      try simp only [zx1,zx2,zx3]
      refine O.sT 101 rfl zJ ?_;refine O.q 3 rfl<|O.op (.g rfl rfl) (.eql rfl rfl)<|O.sT 105 rfl zF ?_;refine O.q 3 rfl<|O.op (.g rfl rfl) (.len rfl underlying31 rfl)<|O.op (.g rfl rfl) (.eql rfl rfl)<|O.sT 110 rfl (by simp [h0]) ?_;refine O.q 6 rfl<|O.nil ?_;exact S.rt results13 rfl hR ⟨rfl,rfl⟩
     ·rw [r3 h0]
      refine S.region rfl<|O.q 1 rfl<|O.op (.p rfl) (.eql rfl rfl)<|O.sT 93 rfl zF ?_;refine O.q 2 rfl<|O.op (.g rfl rfl) (.eql rfl rfl)<|O.sT 96 rfl zF ?_;refine O.q 4 rfl<|O.call0 (.g rfl rfl) rfl zB rfl rfl ((sameRecords_c hy ha)) ?_;rintro _ _ ⟨rfl,rfl⟩
      try simp only [zx1,zx2,zx3]
      refine O.sT 101 rfl zJ ?_;refine O.q 3 rfl<|O.op (.g rfl rfl) (.eql rfl rfl)<|O.sT 105 rfl zF ?_;refine O.q 3 rfl<|O.op (.g rfl rfl) (.len rfl underlying31 rfl)<|O.op (.g rfl rfl) (.eql rfl rfl)<|O.sF 110 rfl (by simp [h0]) ?_;refine O.q 2 rfl<|O.op (.g rfl rfl) (.eql rfl rfl)<|O.sT 113 rfl zF ?_;refine O.q 3 rfl<|O.nil ?_;exact S.rt results13 rfl hR ⟨rfl,rfl⟩
    ·obtain ⟨e5,e6⟩:=sOutN ew
     refine S.seq<|S.region rfl<|O.q 1 rfl<|O.call0 (.p rfl) rfl zB rfl rfl ((sPut_c ha zE)) ?_;rintro _ _ ⟨a56,c56,rfl,rfl⟩
     try simp only [zx1,zx2,zx3]
     rw [e5,e6];refine O.q 5 rfl<|O.nil<|S.seq<|S.seq<|S.region rfl<|O.q 1 rfl<|O.call0 (.p rfl) rfl zB rfl rfl ((sRight_c ha zE)) ?_;rintro _ _ ⟨rfl,rfl⟩
     try simp only [zx1,zx2,zx3]
     refine O.sF 60 rfl (by exact decide_eq_false ew) ?_;refine O.op (.p rfl) (.not rfl)<|O.nil<|S.condT rfl<|S.seq<|S.region rfl<|O.q 1 rfl<|O.op (.p rfl) (.eql rfl rfl)<|O.sT 63 rfl zF ?_;refine O.q 2 rfl<|O.op (.g rfl rfl) (.len rfl underlying31 rfl)<|O.op (.g rfl rfl) (.eql rfl rfl)<|O.sT 67 rfl zF ?_;refine O.q 2 rfl<|O.nil ?_;exact S.rt results13 rfl hR ⟨rfl,rfl⟩
end Go.Proofs.YtodhbhanmdfdeaaGreat
