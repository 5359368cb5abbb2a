/- Texts of this proof. -/
import Derived.Test.YtodhbhanmdfdeaaGreatQFi
open Go Go.Sp Go.Proofs.Tryz
set_option maxRecDepth 100000
set_option maxHeartbeats 1000000
attribute [local irreducible] obj Own OwnP
namespace Go.Proofs.YtodhbhanmdfdeaaGreat
theorem SameBytes_c {r:Fr} {va vb:Value} {xs ys:List UInt8} (ha:Arr Rp.u8 r va xs) (hb:Arr Rp.u8 r vb ys) :
  Con prog 19 #[va,vb] r [] (Ret fun v η=>v=.bool (decide (xs=ys))∧η=[]):=by
 refine Con.o func19 fun g hg R hR=>?_;have ha:=ha.mono hg;have hb:=hb.mono hg;have l1:=ha.bound;have l2:=hb.bound;obtain ⟨a1,c1,rfl⟩:=ha.shape;obtain ⟨a2,c2,rfl⟩:=hb.shape;refine zz 13 ?_;refine S.cd rfl (fun h10=>?_) fun h10=>?_
 ·refine zz 4 ?_
  refine S.ret results19 rfl fun w hw=>hR _ _ w ?_ hw;refine ⟨?_,rfl⟩
  congr 1
  symm
  rw [decide_eq_false_iff_not];rintro rfl;exact h10 rfl
 ·refine zz 7 ?_
  have h10:xs.length=ys.length:=by omega
  refine S.loopK (ι:=Nat) (fun i=>i≤xs.length∧xs.take i=ys.take i) (fun i=>[(5,.int .i64 (i:Int))]) [(0,_),(1,_)] (fun i=>[]) (fun i=>xs.length - i) (0) zG zq zq rfl fun i hx ih=>?_;have hm1:=meltRefl (g:=g);obtain ⟨hi,he⟩:=hx;refine zz 8 ?_;refine S.cd rfl (fun h14=>?_) fun h14=>?_
  ·have hlt:i<xs.length:=by omega
   refine S.skip<|S.seq<|S.block<|S.seq<|S.regionD (L:=.range 9) F.mixed zC<|OD.q 2 rfl<|OD.ia (.p rfl) underlying31 size5 rfl rfl rfl zA (h:=fun p19 cs19 hp19 hr19=>?_)
   cases hr19
   refine zz 1 ?_;refine OD.q 2 rfl<|OD.ia (.p rfl) underlying31 size5 rfl rfl rfl zA (h:=fun p23 cs23 hp23 hr23=>?_)
   cases hr23
   refine zz 3 ?_;refine S.cd rfl (fun h25=>?_) fun h25=>?_
   ·refine zz 4 ?_
    refine S.ret results19 rfl fun w hw=>hR _ _ w ?_ hw;refine ⟨?_,rfl⟩
    congr 1
    symm
    rw [decide_eq_false_iff_not];rintro rfl;exact h25 rfl
   ·refine zz 7 ?_
    exact S.wk (ih (i+1) (by (refine ⟨hlt,?_⟩;rw [List.take_succ_eq_append_getElem hlt,List.take_succ_eq_append_getElem zD,he];congr 2;exact UInt8.toNat_inj.1 zD)) zD)
  ·refine zz 5 ?_
   refine S.ret results19 rfl fun w hw=>hR _ _ w ?_ hw;refine ⟨?_,rfl⟩
   congr 1
   symm
   rw [decide_eq_true_eq];have:i=xs.length:=by omega
   subst this
   rwa [List.take_of_length_le (Nat.le_refl _),List.take_of_length_le zD] at he
end Go.Proofs.YtodhbhanmdfdeaaGreat
