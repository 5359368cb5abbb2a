/- Texts of this proof. -/
import Derived.Test.YtdjoggpacmpfnaaGreatDoorQEvid2
import Derived.Test.YtdjoggpacmpfnaaGreatDoorQSpFrm
open Go Go.Sp Go.Proofs.Tryz
set_option maxRecDepth 100000
set_option maxHeartbeats 1000000
attribute [local irreducible] obj Own ak
namespace Go.Proofs.YtdjoggpacmpfnaaGreatDoor
theorem yx {r:Fr} {s:List UInt8} (hl:s.length≤9223372036854775807):aj prog 312 #[.string (str s)] r [] (aF fun v aa=>v=.bool (decide (fL s))∧aa=[]):=by
 refine aj.o func312 fun g hg R hR=>?_
 by_cases h1:1≤s.length
 ·by_cases h2:s.length≤64
  ·have e:decide (fL s)=true:=zdt ⟨h1,h2⟩
   refine U 9 ?_;refine O.sT 5 rfl (by exact zdt cw)<|U 4 ?_;refine O.sT 9 rfl (by exact zdt cw)<|U 3 ?_;exact S.rt results312 rfl hR ⟨congrArg Value.bool e.symm,rfl⟩
  ·have e:decide (fL s)=false:=aA fun h=>h2 h.2
   refine U 9 ?_;refine O.sT 5 rfl (by exact zdt cw)<|U 4 ?_;refine O.aB 9 rfl (by exact aA cw)<|U 3 ?_;exact S.rt results312 rfl hR ⟨congrArg Value.bool e.symm,rfl⟩
 ·have e:decide (fL s)=false:=aA fun h=>h1 h.1
  refine U 9 ?_;refine O.aB 5 rfl (by exact aA cw)<|U 7 ?_;exact S.rt results312 rfl hR ⟨congrArg Value.bool e.symm,rfl⟩
def ow (s:List UInt8) (l:List aV):Prop:=ez l∧∀ h:0<l.length,l[0].1=s
noncomputable instance (s:List UInt8) (l:List aV):Decidable (ow s l):=Classical.propDecidable _
theorem Dl {r:Fr} {s:List UInt8} {va:Value} {xs:List aV} (ha:av bu r va xs) (hl:xs.length≤1000000000):aj prog 313 #[.string (str s),va] r [] (aF fun v aa=>v=.bool (decide (ow s xs))∧aa=[]):=by
 obtain ⟨a1,c1,rfl⟩:=ha.shape;refine aj.o func313 fun g hg R hR=>?_;have ha:=ha.mono hg
 by_cases h1:ez xs
 ·by_cases h2:0<xs.length
  ·by_cases h3:xs[0].1=s
   ·have e:decide (ow s xs)=true:=zdt ⟨h1,fun _=>h3⟩
    refine U 7 ?_;refine O.v0 (.p rfl) rfl af rfl rfl ((DS ha ai)) ?_;refine O.sT 6 rfl (by exact zdt h1)<|U 4 ?_;refine O.aB 10 rfl (by exact aA ai) ?_;refine O.q 2 rfl<|O.c7 (.g rfl rfl) underlying36 oC rfl rfl (show _=(((0):Nat):Int) by omega) bq (h:=fun Du Cj C2 tv=>?_);obtain ⟨Jp,Jr,Jt,Jv,Jx,Jz,rfl,G3,G5,G8,Gp,Gt,Gx⟩:=bu.sh tv;refine U 2 ?_;refine O.q 1 rfl<|O.op (.g rfl rfl) (.e4 rfl rfl)<|O.sT 17 rfl (by rw [h3];simp)<|U 4 ?_;exact S.rt results313 rfl hR ⟨congrArg Value.bool e.symm,rfl⟩
   ·have e:decide (ow s xs)=false:=aA fun h=>h3 (h.2 h2)
    refine U 7 ?_;refine O.v0 (.p rfl) rfl af rfl rfl ((DS ha ai)) ?_;refine O.sT 6 rfl (by exact zdt h1)<|U 4 ?_;refine O.aB 10 rfl (by exact aA ai) ?_;refine O.q 2 rfl<|O.c7 (.g rfl rfl) underlying36 oC rfl rfl (show _=(((0):Nat):Int) by omega) bq (h:=fun Du Cj C2 tv=>?_);obtain ⟨Jp,Jr,Jt,Jv,Jx,Jz,rfl,G3,G5,G8,Gp,Gt,Gx⟩:=bu.sh tv;refine U 2 ?_;refine O.q 1 rfl<|O.op (.g rfl rfl) (.e4 rfl rfl)<|O.aB 17 rfl (by exact aA (fun q=>h3 (eO q))) ?_;refine U 4 ?_;exact S.rt results313 rfl hR ⟨congrArg Value.bool e.symm,rfl⟩
  ·have e:decide (ow s xs)=true:=zdt ⟨h1,fun h=>absurd h h2⟩
   refine U 7 ?_;refine O.v0 (.p rfl) rfl af rfl rfl ((DS ha ai)) ?_;refine O.sT 6 rfl (by exact zdt h1)<|U 4 ?_;refine O.sT 10 rfl (by exact zdt ai)<|U 11 ?_;exact S.rt results313 rfl hR ⟨congrArg Value.bool e.symm,rfl⟩
 ·have e:decide (ow s xs)=false:=aA fun h=>h1 h.1
  refine U 7 ?_;refine O.v0 (.p rfl) rfl af rfl rfl ((DS ha ai)) ?_;refine O.aB 6 rfl (by exact aA h1)<|U 15 ?_;exact S.rt results313 rfl hR ⟨congrArg Value.bool e.symm,rfl⟩
noncomputable def jL (l:List aV):List UInt8:=if ez l then sb (5::dc l) else []
theorem Bi {l:List aV} (h:ez l):jL l=sb (5::dc l)∧kU l=dc l∧q8 l=0:=⟨by unfold jL;rw [if_pos h],by unfold kU;rw [if_pos h],by unfold q8;rw [if_pos h]⟩
theorem PL {l:List aV} (h:¬ ez l):jL l=[]∧kU l=[]∧q8 l=4:=⟨by unfold jL;rw [if_neg h],by unfold kU;rw [if_neg h],by unfold q8;rw [if_neg h]⟩
theorem acr (l:List aV):(jL l).length≤64:=by unfold jL;split;rw [JT];exact Nat.le_refl _;exact Nat.zero_le _
theorem acu {l:List aV} (h:ez l):(jL l).length=64:=by rw [(Bi h).1,JT]
theorem acw {r:Fr} {va:Value} {xs:List aV} (ha:av bu r va xs) (aU:cg r ⟨0,0,none⟩ (cz fq)) (hK:cg r ⟨1,0,none⟩ (cz gW)) (hl:xs.length≤10000000) :
  aj prog 278 #[va] r [] (aF fun v aa=>∃ a c,v=.slice a (jL xs).length c∧aa=[ak ag.u8 5 (.slice a (jL xs).length c) (jL xs)]):=by
 obtain ⟨a1,c1,rfl⟩:=ha.shape;refine aj.o func278 fun g hg R hR=>?_;have ha:=ha.mono hg;have aU:=aU.mono hg;have hK:=hK.mono hg
 by_cases h1:ez xs
 ·obtain ⟨e1,e2,cZ⟩:=Bi h1
  have iP:=q7 h1.1;refine U 7 ?_;refine O.aN (.p rfl) rfl af rfl rfl ((Be ha ai)) ?_;rintro _ _ ⟨a7,c9,rfl,rfl⟩;rw [e2,cZ];refine U 8 ?_;refine S.gH an fun g hs hm hb=>?_;replace hg:=bf hg hs;replace hR:=a_ hR hm
  try replace ha:=ha.mono hs
  try replace aU:=aU.mono hs
  try replace hK:=hK.mono hs
  clear hs hm;refine U 3 ?_;refine O.aB 11 rfl dU ?_;refine U 5 ?_;refine O.aD (.p rfl) (.bw (T:=ag.u8) (ys:=[5]) underlying22 cP aq rfl rfl ⟨rfl,trivial⟩ aq) ?_;rintro _ _ ⟨cR,bD,rfl,rfl⟩;refine O.gH an fun g hs hm Gl=>?_;replace hg:=bf hg hs;replace hR:=a_ hR hm
  try replace ha:=ha.mono hs
  try replace aU:=aU.mono hs
  try replace hK:=hK.mono hs
  try replace hb:=hb.mono hs
  clear hs hm;refine O.q 1 rfl<|O.aD (.p rfl) (.bw (T:=ag.cells 1) (ys:=[[.slice cR 1 bD],[.slice a7 (dc xs).length c9]]) underlying28 dH aq rfl rfl ⟨⟨rfl,rfl,by first|(simp;done)|(intro v hv;simp [Value.cells] at hv;rcases hv with rfl|rfl<;>rfl)|(refine List.forall_mem_cons.2 ⟨rfl,?_⟩;repeat (first|exact (fun _ h=>absurd h List.not_mem_nil)|refine List.forall_mem_cons.2 ⟨rfl,?_⟩))⟩,⟨rfl,rfl,by first|(simp;done)|(intro v hv;simp [Value.cells] at hv;rcases hv with rfl|rfl<;>rfl)|(refine List.forall_mem_cons.2 ⟨rfl,?_⟩;repeat (first|exact (fun _ h=>absurd h List.not_mem_nil)|refine List.forall_mem_cons.2 ⟨rfl,?_⟩))⟩,trivial⟩ aq) ?_;rintro _ _ ⟨cS,bE,rfl,rfl⟩;refine O.gH an fun g hs hm CK=>?_;replace hg:=bf hg hs;replace hR:=a_ hR hm
  try replace ha:=ha.mono hs
  try replace aU:=aU.mono hs
  try replace hK:=hK.mono hs
  try replace hb:=hb.mono hs
  try replace Gl:=Gl.mono hs
  clear hs hm;refine O.aN (.p rfl) rfl af rfl rfl ((PT (ps:=[[5],dc xs]) (av.pZ CK ⟨⟨_,rfl,Gl⟩,⟨_,rfl,hb⟩,trivial⟩ rfl) aU hK cw)) ?_;rintro _ _ ⟨cT,bF,rfl,rfl⟩;refine U 2 ?_;have fV:sb [[5],dc xs].flatten=jL xs:=by rw [e1];simp
  have lE:=acu h1;refine S.hU (T:=ag.u8) (e:=5) (v' :=.slice cT (jL xs).length bF) (xs' :=jL xs) an (by rw [lE]) fV ?_;exact S.rt results278 rfl hR ⟨cT,bF,by rw [lE],rfl⟩
 ·obtain ⟨e1,e2,cZ⟩:=PL h1
  refine U 7 ?_;refine O.aN (.p rfl) rfl af rfl rfl ((Be ha ai)) ?_;rintro _ _ ⟨a7,c9,rfl,rfl⟩;rw [e2,cZ];refine U 11 ?_;refine O.sT 11 rfl dU<|U 6 ?_;refine S.l_ (T:=ag.u8) (e:=5) ?_;refine S.hU (T:=ag.u8) (e:=5) (v' :=.slice none (jL xs).length 0) (xs' :=jL xs) an (by rw [e1];rfl) e1.symm ?_;exact S.rt results278 rfl hR ⟨none,0,by rw [e1];rfl,rfl⟩
end Go.Proofs.YtdjoggpacmpfnaaGreatDoor
