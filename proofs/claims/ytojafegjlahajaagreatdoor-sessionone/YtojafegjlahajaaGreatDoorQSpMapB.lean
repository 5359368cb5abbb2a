/- Texts of this proof. -/
import Derived.Test.YtojafegjlahajaaGreatDoorQSpLaid
set_option linter.unusedSectionVars false
namespace Go.Sp
def kJ (k:UInt8):Value:=.int .u8 (k.toNat:Int)
theorem LN (a b:UInt8):((a.toNat:Int) ==(b.toNat:Int))=decide (a=b):=by
 by_cases h:a=b
 ·subst h;simp
 ·have:¬ (a.toNat:Int)=b.toNat:=fun e=>h (KN e)
  simp [h,this]
theorem GS {kd:IntKind} (k:UInt8):∀ (l:List (b8 UInt8)) (i:Nat),Instr.findNow (.int kd) (kJ k) (l.map (gT kJ)) i=some ((cG l k).map fun v=>(i+(l.findIdx fun x=>x.1 ==k),v))
 |[],_=>rfl
 |x::l,i=>by
  have ih:=GS (kd:=kd) k l (i+1);simp only [List.map_cons,Instr.findNow,gT];have hs:Instr.sameNow (.int kd) (kJ k) (kJ x.1)=some (decide (k=x.1)):=by
   simp only [kJ,Instr.sameNow,if_true,LN]
  rw [hs]
  by_cases h:x.1=k
  ·subst h;simp [cG,List.findIdx_cons]
  ·rw [decide_eq_false (fun e=>h e.symm)]
   simp only
   rw [ih];have h2:(x.1 ==k)=false:=by simpa using h
   simp only [cG,if_neg h,List.findIdx_cons,h2]
   cases cG l k with
   |none=>rfl
   |some v=>simp;omega
theorem TR {P:Program} {tk:TypeId} {kd:IntKind} {k:UInt8} {w:World} (hk:P.underlying tk=some (.int kd)) (e:Bool) (n:Nat):(Instr.checkKey e (n+1) tk (kJ k)).run P w=.ok () w:=by
 simp only [Instr.checkKey,Sem.run_bind,run_underlying hk,Result.andThen,kJ]
 rfl
theorem fh {P:Program} {tk:TypeId} {kd:IntKind} (hk:P.underlying tk=some (.int kd)):ou P tk kJ where
 find k l w:=by
  have h:=GS (kd:=kd) k l 0;simp only [e8,Instr.findKey,Sem.run_bind,run_underlying hk,Result.andThen,h,Nat.zero_add,Sem.run_pure]
 check e k w:=TR hk e 9999
 same k:=by simp [kJ,Instr.sameBits]
variable {K:Type} [DecidableEq K] {enc:K→Value}
theorem j9.iq {P:Program} {σ:List (Nat × Value)} {g:bh} {U ζ:List az} {t tk te:TypeId} {x y z:Operand} {b c:Nat} {l:List (b8 K)} {key:K} {v:Value} (ht:P.underlying t=some (.map tk te)) (hk:ou P tk enc) (hx:aA σ x=some (.map (some b))) (hy:aA σ y=some (enc (key))) (hz:aA σ z=some v) (hs:bf U (cc enc b l c) ζ) :
  j9 P (.insert t x y z) σ g U (cc enc b (ir l c key v) (kI l c key)::ζ) :=
 fun o ρ w ho hkn hw=>by
  have hw1:=hw.cu hs;refine ⟨_,?_,hw1.putObj _⟩;have:=JZ (P:=P) (key:=key) (v:=v) ht hk hw1.block
  simp [execOp,ho,hkn x _ hx,hkn y _ hy,hkn z _ hz,this]
end Go.Sp
