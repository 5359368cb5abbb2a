/- Texts of this proof. -/
import Derived.Test.YtojafegjlahajaaGreatDoorQEvid1
import Derived.Test.YtojafegjlahajaaGreatDoorQSpNode
open Go Go.Sp Go.Proofs.Tryz
set_option maxRecDepth 100000
set_option maxHeartbeats 1000000
attribute [local irreducible] obj Own OwnP
namespace Go.Proofs.YtojafegjlahajaaGreatDoor
theorem mlong_c {r:Fr} {s:List UInt8} (hl:s.length≤9223372036854775807):Con prog 88 #[.string (str s)] r [] (Ret fun v η=>v=.bool (decide (keyOk s))∧η=[]):=by
 refine Con.of (n:=11) _ rfl func88 rfl rfl rfl fun g hg R hR=>?_
 by_cases h1:1≤s.length
 ·by_cases h2:s.length≤64
  ·have e:decide (keyOk s)=true:=decide_eq_true ⟨h1,h2⟩
   refine S.seq<|S.region rfl<|O.q 1 rfl<|O.nil<|S.seq<|S.region rfl<|O.q 1 rfl<|O.op (.p rfl) (.lenS rfl underlying9 rfl)<|O.op (.p rfl) (.geq rfl rfl)<|O.sT 5 rfl (by exact decide_eq_true zK) ?_;refine O.q 2 rfl<|O.op (.g rfl rfl) (.lenS rfl underlying9 rfl)<|O.op (.g rfl rfl) (.leq rfl rfl)<|O.sT 9 rfl (by exact decide_eq_true zK) ?_;refine O.q 2 rfl<|O.nil ?_;exact S.rt results88 rfl hR ⟨congrArg Value.bool e.symm,rfl⟩
  ·have e:decide (keyOk s)=false:=decide_eq_false fun h=>h2 h.2
   refine S.seq<|S.region rfl<|O.q 1 rfl<|O.nil<|S.seq<|S.region rfl<|O.q 1 rfl<|O.op (.p rfl) (.lenS rfl underlying9 rfl)<|O.op (.p rfl) (.geq rfl rfl)<|O.sT 5 rfl (by exact decide_eq_true zK) ?_;refine O.q 2 rfl<|O.op (.g rfl rfl) (.lenS rfl underlying9 rfl)<|O.op (.g rfl rfl) (.leq rfl rfl)<|O.sF 9 rfl (by exact decide_eq_false zK) ?_;refine O.q 2 rfl<|O.nil ?_;exact S.rt results88 rfl hR ⟨congrArg Value.bool e.symm,rfl⟩
 ·have e:decide (keyOk s)=false:=decide_eq_false fun h=>h1 h.1
  refine S.seq<|S.region rfl<|O.q 1 rfl<|O.nil<|S.seq<|S.region rfl<|O.q 1 rfl<|O.op (.p rfl) (.lenS rfl underlying9 rfl)<|O.op (.p rfl) (.geq rfl rfl)<|O.sF 5 rfl (by exact decide_eq_false zK) ?_;refine O.q 6 rfl<|O.nil ?_;exact S.rt results88 rfl hR ⟨congrArg Value.bool e.symm,rfl⟩
theorem mof_c {r:Fr} {s:List UInt8} {va:Value} {xs:List RecT} (ha:Arr RecRp r va xs) (hl:xs.length≤1000000000):Con prog 89 #[.string (str s),va] r [] (Ret fun v η=>v=.bool (decide (ofK s xs))∧η=[]):=by
 obtain ⟨a1,c1,rfl⟩:=ha.shape;refine Con.of (n:=20) _ rfl func89 rfl rfl rfl fun g hg R hR=>?_;have ha:=ha.mono hg
 by_cases h1:SRight xs
 ·by_cases h2:0<xs.length
  ·by_cases h3:xs[0].1=s
   ·have e:decide (ofK s xs)=true:=decide_eq_true ⟨h1,fun _=>h3⟩
    refine S.seq<|S.region rfl<|O.q 1 rfl<|O.nil<|S.seq<|S.region rfl<|O.q 1 rfl<|O.call0 (.p rfl) rfl zD rfl rfl ((sRight_c ha zC)) ?_;rintro _ _ ⟨rfl,rfl⟩
    try simp only [zx1,zx2,zx3]
    refine O.sT 6 rfl (by exact decide_eq_true h1) ?_;refine O.q 2 rfl<|O.op (.g rfl rfl) (.len rfl underlying22 rfl)<|O.op (.g rfl rfl) (.eql rfl rfl)<|O.sF 10 rfl (by exact decide_eq_false zC) ?_;refine O.q 2 rfl<|O.ia (.g rfl rfl) underlying22 size102 rfl rfl (show _=(((0):Nat):Int) by omega) (by first|assumption|exact Arr.mono hg zE|exact Arr.left zE|exact Arr.left (Arr.mono hg zE)) (h:=fun p13 cs13 hp13 hr13=>?_);obtain ⟨ra3_13,ra5_13,ra6_13,rc3_13,rc5_13,rc6_13,rfl,ho0_13,ho1_13,ho2_13,ha3_13,ha5_13,ha6_13⟩:=RecRp.sh hr13;refine O.op (.g rfl rfl) (.fieldAddr fld102x0 rfl)<|O.op (.g rfl rfl) (.loadAt flat9 rfl hp13 rfl) ?_;refine O.q 1 rfl<|O.op (.g rfl rfl) (.eqlS rfl rfl)<|O.sT 17 rfl (by rw [h3];simp) ?_;refine O.q 3 rfl<|O.nil ?_;exact S.rt results89 rfl hR ⟨congrArg Value.bool e.symm,rfl⟩
   ·have e:decide (ofK s xs)=false:=decide_eq_false fun h=>h3 (h.2 h2)
    refine S.seq<|S.region rfl<|O.q 1 rfl<|O.nil<|S.seq<|S.region rfl<|O.q 1 rfl<|O.call0 (.p rfl) rfl zD rfl rfl ((sRight_c ha zC)) ?_;rintro _ _ ⟨rfl,rfl⟩
    try simp only [zx1,zx2,zx3]
    refine O.sT 6 rfl (by exact decide_eq_true h1) ?_;refine O.q 2 rfl<|O.op (.g rfl rfl) (.len rfl underlying22 rfl)<|O.op (.g rfl rfl) (.eql rfl rfl)<|O.sF 10 rfl (by exact decide_eq_false zC) ?_;refine O.q 2 rfl<|O.ia (.g rfl rfl) underlying22 size102 rfl rfl (show _=(((0):Nat):Int) by omega) (by first|assumption|exact Arr.mono hg zE|exact Arr.left zE|exact Arr.left (Arr.mono hg zE)) (h:=fun p13 cs13 hp13 hr13=>?_);obtain ⟨ra3_13,ra5_13,ra6_13,rc3_13,rc5_13,rc6_13,rfl,ho0_13,ho1_13,ho2_13,ha3_13,ha5_13,ha6_13⟩:=RecRp.sh hr13;refine O.op (.g rfl rfl) (.fieldAddr fld102x0 rfl)<|O.op (.g rfl rfl) (.loadAt flat9 rfl hp13 rfl) ?_;refine O.q 1 rfl<|O.op (.g rfl rfl) (.eqlS rfl rfl)<|O.sF 17 rfl (by exact decide_eq_false (fun q=>h3 (str_eqL q))) ?_;refine O.q 3 rfl<|O.nil ?_;exact S.rt results89 rfl hR ⟨congrArg Value.bool e.symm,rfl⟩
  ·have e:decide (ofK s xs)=true:=decide_eq_true ⟨h1,fun h=>absurd h h2⟩
   refine S.seq<|S.region rfl<|O.q 1 rfl<|O.nil<|S.seq<|S.region rfl<|O.q 1 rfl<|O.call0 (.p rfl) rfl zD rfl rfl ((sRight_c ha zC)) ?_;rintro _ _ ⟨rfl,rfl⟩
   try simp only [zx1,zx2,zx3]
   refine O.sT 6 rfl (by exact decide_eq_true h1) ?_;refine O.q 2 rfl<|O.op (.g rfl rfl) (.len rfl underlying22 rfl)<|O.op (.g rfl rfl) (.eql rfl rfl)<|O.sT 10 rfl (by exact decide_eq_true zC) ?_;refine O.q 10 rfl<|O.nil ?_;exact S.rt results89 rfl hR ⟨congrArg Value.bool e.symm,rfl⟩
 ·have e:decide (ofK s xs)=false:=decide_eq_false fun h=>h1 h.1
  refine S.seq<|S.region rfl<|O.q 1 rfl<|O.nil<|S.seq<|S.region rfl<|O.q 1 rfl<|O.call0 (.p rfl) rfl zD rfl rfl ((sRight_c ha zC)) ?_;rintro _ _ ⟨rfl,rfl⟩
  try simp only [zx1,zx2,zx3]
  refine O.sF 6 rfl (by exact decide_eq_false h1) ?_;refine O.q 14 rfl<|O.nil ?_;exact S.rt results89 rfl hR ⟨congrArg Value.bool e.symm,rfl⟩
theorem setDY {l:List RecT} (h:SRight l):setD l=shaSum (5::sB l)∧sOut l=sB l∧sErr l=0:=⟨by unfold setD;rw [if_pos h],by unfold sOut;rw [if_pos h],by unfold sErr;rw [if_pos h]⟩
theorem setDN {l:List RecT} (h:¬ SRight l):setD l=[]∧sOut l=[]∧sErr l=4:=⟨by unfold setD;rw [if_neg h],by unfold sOut;rw [if_neg h],by unfold sErr;rw [if_neg h]⟩
theorem setSum_c {r:Fr} {va:Value} {xs:List RecT} (ha:Arr RecRp r va xs) (hH:At r ⟨0,0,none⟩ (w64s shaH)) (hK:At r ⟨1,0,none⟩ (w64s shaK)) (hl:xs.length≤10000000) :
  Con prog 20 #[va] r [] (Ret fun v η=>∃ a c,v=.slice a (setD xs).length c∧η=[OwnP Rp.u8 5 (.slice a (setD xs).length c) (setD xs)]):=by
 obtain ⟨a1,c1,rfl⟩:=ha.shape;refine Con.of (n:=16) _ rfl func20 rfl rfl rfl fun g hg R hR=>?_;have ha:=ha.mono hg;have hH:=hH.mono hg;have hK:=hK.mono hg
 by_cases h1:SRight xs
 ·obtain ⟨e1,e2,e3⟩:=setDY h1
  have hsl:=sB_le h1.1;refine S.seq<|S.region rfl<|O.q 1 rfl<|O.nil<|S.seq<|S.region rfl<|O.q 1 rfl<|O.call0 (.p rfl) rfl zD rfl rfl ((sPut_c ha zC)) ?_;rintro _ _ ⟨a7,c7,rfl,rfl⟩
  try simp only [zx1,zx2,zx3]
  rw [e2,e3];refine O.q 5 rfl<|O.nil<|S.seq<|S.seq<|S.frzA zB fun g hs hm hb=>?_;replace hg:=Fr.sub_trans hg hs;replace hR:=melted hR hm
  try replace ha:=ha.mono hs
  try replace hH:=hH.mono hs
  try replace hK:=hK.mono hs
  clear hs hm;refine S.region rfl<|O.q 1 rfl<|O.op (.p rfl) (.neq rfl rfl)<|O.sF 11 rfl zG ?_;refine O.nil<|S.condF rfl<|S.skip<|S.seq<|S.region rfl<|O.opE (.p rfl) (.litP (T:=Rp.u8) (ys:=[5]) underlying24 elem5 zF rfl rfl ⟨rfl,trivial⟩ zF) ?_;rintro _ _ ⟨a12,c12,rfl,rfl⟩;refine O.frzA zB fun g hs hm ha12=>?_;replace hg:=Fr.sub_trans hg hs;replace hR:=melted hR hm
  try replace ha:=ha.mono hs
  try replace hH:=hH.mono hs
  try replace hK:=hK.mono hs
  try replace hb:=hb.mono hs
  clear hs hm;refine O.q 1 rfl<|O.opE (.p rfl) (.litP (T:=Rp.cells 1) (ys:=[[.slice a12 1 c12],[.slice a7 (sB xs).length c7]]) underlying109 elem24 zF rfl rfl ⟨⟨rfl,rfl,by first|(simp;done)|(intro v hv;simp [Value.cells] at hv;rcases hv with rfl|rfl<;>rfl)|(refine List.forall_mem_cons.2 ⟨rfl,?_⟩;repeat (first|exact (fun _ h=>absurd h List.not_mem_nil)|refine List.forall_mem_cons.2 ⟨rfl,?_⟩))⟩,⟨rfl,rfl,by first|(simp;done)|(intro v hv;simp [Value.cells] at hv;rcases hv with rfl|rfl<;>rfl)|(refine List.forall_mem_cons.2 ⟨rfl,?_⟩;repeat (first|exact (fun _ h=>absurd h List.not_mem_nil)|refine List.forall_mem_cons.2 ⟨rfl,?_⟩))⟩,trivial⟩ zF) ?_;rintro _ _ ⟨a14,c14,rfl,rfl⟩;refine O.frzA zB fun g hs hm ha14=>?_;replace hg:=Fr.sub_trans hg hs;replace hR:=melted hR hm
  try replace ha:=ha.mono hs
  try replace hH:=hH.mono hs
  try replace hK:=hK.mono hs
  try replace hb:=hb.mono hs
  try replace ha12:=ha12.mono hs
  clear hs hm;refine O.call0 (.p rfl) rfl zD rfl rfl ((shaSum_c (ps:=[[5],sB xs]) (Arr.ofCells ha14 ⟨⟨_,rfl,ha12⟩,⟨_,rfl,hb⟩,trivial⟩ rfl) hH hK zK)) ?_;rintro _ _ ⟨a15,c15,rfl,rfl⟩
  try simp only [zx1,zx2,zx3]
  refine O.q 1 rfl<|O.nil ?_;have e4:shaSum [[5],sB xs].flatten=setD xs:=by rw [e1];simp
  have e5:=setD_yes h1;refine S.ownIs (T:=Rp.u8) (e:=5) (v' :=.slice a15 (setD xs).length c15) (xs' :=setD xs) zB (by rw [e5]) e4 ?_;exact S.rt results20 rfl hR ⟨a15,c15,by rw [e5],rfl⟩
 ·obtain ⟨e1,e2,e3⟩:=setDN h1
  refine S.seq<|S.region rfl<|O.q 1 rfl<|O.nil<|S.seq<|S.region rfl<|O.q 1 rfl<|O.call0 (.p rfl) rfl zD rfl rfl ((sPut_c ha zC)) ?_;rintro _ _ ⟨a7,c7,rfl,rfl⟩
  try simp only [zx1,zx2,zx3]
  rw [e2,e3];refine O.q 5 rfl<|O.nil<|S.seq<|S.seq<|S.region rfl<|O.q 1 rfl<|O.op (.p rfl) (.neq rfl rfl)<|O.sT 11 rfl zG ?_;refine O.nil<|S.condT rfl<|S.seq<|S.region rfl<|O.q 1 rfl<|O.nil<|S.addNil (T:=Rp.u8) (e:=5) ?_;refine S.ownIs (T:=Rp.u8) (e:=5) (v' :=.slice none (setD xs).length 0) (xs' :=setD xs) zB (by rw [e1];rfl) e1.symm ?_;exact S.rt results20 rfl hR ⟨none,0,by rw [e1];rfl,rfl⟩
end Go.Proofs.YtojafegjlahajaaGreatDoor
