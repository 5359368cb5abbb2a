/- Texts of this proof. -/
import Derived.Test.YtojafegjlahajaaGreatDoorQEvid1
import Derived.Test.YtojafegjlahajaaGreatDoorQSpNode
open Go Go.Sp Go.Proofs.Tryz
set_option maxRecDepth 100000
set_option maxHeartbeats 1000000
attribute [local irreducible] obj Own OwnP
namespace Go.Proofs.YtojafegjlahajaaGreatDoor
theorem mlong_c {r:Fr} {s:List UInt8} (hl:s.length≤9223372036854775807):Con prog 88 #[.string (str s)] r [] (Ret fun v η=>v=.bool (decide (keyOk s))∧η=[]):=by
 refine Con.o func88 fun g hg R hR=>?_
 by_cases h1:1≤s.length
 ·by_cases h2:s.length≤64
  ·have e:decide (keyOk s)=true:=zdt ⟨h1,h2⟩
   refine zz 9 ?_;refine O.sT 5 rfl (by exact zdt zJ)<|zz 4 ?_;refine O.sT 9 rfl (by exact zdt zJ)<|zz 3 ?_;exact S.rt results88 rfl hR ⟨congrArg Value.bool e.symm,rfl⟩
  ·have e:decide (keyOk s)=false:=zdf fun h=>h2 h.2
   refine zz 9 ?_;refine O.sT 5 rfl (by exact zdt zJ)<|zz 4 ?_;refine O.sF 9 rfl (by exact zdf zJ)<|zz 3 ?_;exact S.rt results88 rfl hR ⟨congrArg Value.bool e.symm,rfl⟩
 ·have e:decide (keyOk s)=false:=zdf fun h=>h1 h.1
  refine zz 9 ?_;refine O.sF 5 rfl (by exact zdf zJ)<|zz 7 ?_;exact S.rt results88 rfl hR ⟨congrArg Value.bool e.symm,rfl⟩
theorem mof_c {r:Fr} {s:List UInt8} {va:Value} {xs:List RecT} (ha:Arr RecRp r va xs) (hl:xs.length≤1000000000):Con prog 89 #[.string (str s),va] r [] (Ret fun v η=>v=.bool (decide (ofK s xs))∧η=[]):=by
 obtain ⟨a1,c1,rfl⟩:=ha.shape;refine Con.o func89 fun g hg R hR=>?_;have ha:=ha.mono hg
 by_cases h1:SRight xs
 ·by_cases h2:0<xs.length
  ·by_cases h3:xs[0].1=s
   ·have e:decide (ofK s xs)=true:=zdt ⟨h1,fun _=>h3⟩
    refine zz 7 ?_;refine O.v0 (.p rfl) rfl zC rfl rfl ((sRight_c ha zB)) ?_;refine O.sT 6 rfl (by exact zdt h1)<|zz 4 ?_;refine O.sF 10 rfl (by exact zdf zB) ?_;refine O.q 2 rfl<|O.ia (.g rfl rfl) underlying22 size102 rfl rfl (show _=(((0):Nat):Int) by omega) zA (h:=fun p13 cs13 hp13 hr13=>?_);obtain ⟨ra3_13,ra5_13,ra6_13,rc3_13,rc5_13,rc6_13,rfl,ho0_13,ho1_13,ho2_13,ha3_13,ha5_13,ha6_13⟩:=RecRp.sh hr13;refine zz 2 ?_;refine O.q 1 rfl<|O.op (.g rfl rfl) (.eqlS rfl rfl)<|O.sT 17 rfl (by rw [h3];simp)<|zz 4 ?_;exact S.rt results89 rfl hR ⟨congrArg Value.bool e.symm,rfl⟩
   ·have e:decide (ofK s xs)=false:=zdf fun h=>h3 (h.2 h2)
    refine zz 7 ?_;refine O.v0 (.p rfl) rfl zC rfl rfl ((sRight_c ha zB)) ?_;refine O.sT 6 rfl (by exact zdt h1)<|zz 4 ?_;refine O.sF 10 rfl (by exact zdf zB) ?_;refine O.q 2 rfl<|O.ia (.g rfl rfl) underlying22 size102 rfl rfl (show _=(((0):Nat):Int) by omega) zA (h:=fun p13 cs13 hp13 hr13=>?_);obtain ⟨ra3_13,ra5_13,ra6_13,rc3_13,rc5_13,rc6_13,rfl,ho0_13,ho1_13,ho2_13,ha3_13,ha5_13,ha6_13⟩:=RecRp.sh hr13;refine zz 2 ?_;refine O.q 1 rfl<|O.op (.g rfl rfl) (.eqlS rfl rfl)<|O.sF 17 rfl (by exact zdf (fun q=>h3 (str_eqL q))) ?_;refine zz 4 ?_;exact S.rt results89 rfl hR ⟨congrArg Value.bool e.symm,rfl⟩
  ·have e:decide (ofK s xs)=true:=zdt ⟨h1,fun h=>absurd h h2⟩
   refine zz 7 ?_;refine O.v0 (.p rfl) rfl zC rfl rfl ((sRight_c ha zB)) ?_;refine O.sT 6 rfl (by exact zdt h1)<|zz 4 ?_;refine O.sT 10 rfl (by exact zdt zB)<|zz 11 ?_;exact S.rt results89 rfl hR ⟨congrArg Value.bool e.symm,rfl⟩
 ·have e:decide (ofK s xs)=false:=zdf fun h=>h1 h.1
  refine zz 7 ?_;refine O.v0 (.p rfl) rfl zC rfl rfl ((sRight_c ha zB)) ?_;refine O.sF 6 rfl (by exact zdf h1)<|zz 15 ?_;exact S.rt results89 rfl hR ⟨congrArg Value.bool e.symm,rfl⟩
theorem setDY {l:List RecT} (h:SRight l):setD l=shaSum (5::sB l)∧sOut l=sB l∧sErr l=0:=⟨by unfold setD;rw [if_pos h],by unfold sOut;rw [if_pos h],by unfold sErr;rw [if_pos h]⟩
theorem setDN {l:List RecT} (h:¬ SRight l):setD l=[]∧sOut l=[]∧sErr l=4:=⟨by unfold setD;rw [if_neg h],by unfold sOut;rw [if_neg h],by unfold sErr;rw [if_neg h]⟩
theorem setSum_c {r:Fr} {va:Value} {xs:List RecT} (ha:Arr RecRp r va xs) (hH:At r ⟨0,0,none⟩ (w64s shaH)) (hK:At r ⟨1,0,none⟩ (w64s shaK)) (hl:xs.length≤10000000) :
  Con prog 20 #[va] r [] (Ret fun v η=>∃ a c,v=.slice a (setD xs).length c∧η=[OwnP Rp.u8 5 (.slice a (setD xs).length c) (setD xs)]):=by
 obtain ⟨a1,c1,rfl⟩:=ha.shape;refine Con.o func20 fun g hg R hR=>?_;have ha:=ha.mono hg;have hH:=hH.mono hg;have hK:=hK.mono hg
 by_cases h1:SRight xs
 ·obtain ⟨e1,e2,e3⟩:=setDY h1
  have hsl:=sB_le h1.1;refine zz 7 ?_;refine O.call0 (.p rfl) rfl zC rfl rfl ((sPut_c ha zB)) ?_;rintro _ _ ⟨a7,c7,rfl,rfl⟩;rw [e2,e3];refine zz 8 ?_;refine S.frzA zD fun g hs hm hb=>?_;replace hg:=zfs hg hs;replace hR:=melted hR hm
  try replace ha:=ha.mono hs
  try replace hH:=hH.mono hs
  try replace hK:=hK.mono hs
  clear hs hm;refine zz 3 ?_;refine O.sF 11 rfl zF ?_;refine zz 5 ?_;refine O.opE (.p rfl) (.litP (T:=Rp.u8) (ys:=[5]) underlying24 elem5 zE rfl rfl ⟨rfl,trivial⟩ zE) ?_;rintro _ _ ⟨a12,c12,rfl,rfl⟩;refine O.frzA zD fun g hs hm ha12=>?_;replace hg:=zfs hg hs;replace hR:=melted hR hm
  try replace ha:=ha.mono hs
  try replace hH:=hH.mono hs
  try replace hK:=hK.mono hs
  try replace hb:=hb.mono hs
  clear hs hm;refine O.q 1 rfl<|O.opE (.p rfl) (.litP (T:=Rp.cells 1) (ys:=[[.slice a12 1 c12],[.slice a7 (sB xs).length c7]]) underlying109 elem24 zE rfl rfl ⟨⟨rfl,rfl,by first|(simp;done)|(intro v hv;simp [Value.cells] at hv;rcases hv with rfl|rfl<;>rfl)|(refine List.forall_mem_cons.2 ⟨rfl,?_⟩;repeat (first|exact (fun _ h=>absurd h List.not_mem_nil)|refine List.forall_mem_cons.2 ⟨rfl,?_⟩))⟩,⟨rfl,rfl,by first|(simp;done)|(intro v hv;simp [Value.cells] at hv;rcases hv with rfl|rfl<;>rfl)|(refine List.forall_mem_cons.2 ⟨rfl,?_⟩;repeat (first|exact (fun _ h=>absurd h List.not_mem_nil)|refine List.forall_mem_cons.2 ⟨rfl,?_⟩))⟩,trivial⟩ zE) ?_;rintro _ _ ⟨a14,c14,rfl,rfl⟩;refine O.frzA zD fun g hs hm ha14=>?_;replace hg:=zfs hg hs;replace hR:=melted hR hm
  try replace ha:=ha.mono hs
  try replace hH:=hH.mono hs
  try replace hK:=hK.mono hs
  try replace hb:=hb.mono hs
  try replace ha12:=ha12.mono hs
  clear hs hm;refine O.call0 (.p rfl) rfl zC rfl rfl ((shaSum_c (ps:=[[5],sB xs]) (Arr.ofCells ha14 ⟨⟨_,rfl,ha12⟩,⟨_,rfl,hb⟩,trivial⟩ rfl) hH hK zJ)) ?_;rintro _ _ ⟨a15,c15,rfl,rfl⟩;refine zz 2 ?_;have e4:shaSum [[5],sB xs].flatten=setD xs:=by rw [e1];simp
  have e5:=setD_yes h1;refine S.ownIs (T:=Rp.u8) (e:=5) (v' :=.slice a15 (setD xs).length c15) (xs' :=setD xs) zD (by rw [e5]) e4 ?_;exact S.rt results20 rfl hR ⟨a15,c15,by rw [e5],rfl⟩
 ·obtain ⟨e1,e2,e3⟩:=setDN h1
  refine zz 7 ?_;refine O.call0 (.p rfl) rfl zC rfl rfl ((sPut_c ha zB)) ?_;rintro _ _ ⟨a7,c7,rfl,rfl⟩;rw [e2,e3];refine zz 11 ?_;refine O.sT 11 rfl zF<|zz 6 ?_;refine S.addNil (T:=Rp.u8) (e:=5) ?_;refine S.ownIs (T:=Rp.u8) (e:=5) (v' :=.slice none (setD xs).length 0) (xs' :=setD xs) zD (by rw [e1];rfl) e1.symm ?_;exact S.rt results20 rfl hR ⟨none,0,by rw [e1];rfl,rfl⟩
end Go.Proofs.YtojafegjlahajaaGreatDoor
