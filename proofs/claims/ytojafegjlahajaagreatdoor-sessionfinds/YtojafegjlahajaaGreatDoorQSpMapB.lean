/- Texts of this proof. -/
import Derived.Test.YtojafegjlahajaaGreatDoorQSpLaid
set_option linter.unusedSectionVars false
namespace Go.Sp
def kT (k:UInt8):Value:=.int .u8 (k.toNat:Int)
theorem M4 (a b:UInt8):((a.toNat:Int) ==(b.toNat:Int))=decide (a=b):=by
 by_cases h:a=b
 ·subst h;simp
 ·have:¬ (a.toNat:Int)=b.toNat:=fun e=>h (LZ e)
  simp [h,this]
theorem H6 {kd:IntKind} (k:UInt8):∀ (l:List (cr UInt8)) (i:Nat),Instr.findNow (.int kd) (kT k) (l.map (gX kT)) i=some ((cL l k).map fun v=>(i+(l.findIdx fun x=>x.1 ==k),v))
 |[],_=>rfl
 |x::l,i=>by
  have ih:=H6 (kd:=kd) k l (i+1);simp only [List.map_cons,Instr.findNow,gX];have hs:Instr.sameNow (.int kd) (kT k) (kT x.1)=some (decide (k=x.1)):=by
   simp only [kT,Instr.sameNow,if_true,M4]
  rw [hs]
  by_cases h:x.1=k
  ·subst h;simp [cL,List.findIdx_cons]
  ·rw [decide_eq_false (fun e=>h e.symm)]
   simp only
   rw [ih];have h2:(x.1 ==k)=false:=by simpa using h
   simp only [cL,if_neg h,List.findIdx_cons,h2]
   cases cL l k with
   |none=>rfl
   |some v=>simp;omega
theorem Wd {P:Program} {tk:TypeId} {kd:IntKind} {k:UInt8} {w:World} (hk:P.underlying tk=some (.int kd)) (e:Bool) (n:Nat):(Instr.checkKey e (n+1) tk (kT k)).run P w=.ok () w:=by
 simp only [Instr.checkKey,Sem.run_bind,run_underlying hk,Result.andThen,kT]
 rfl
theorem fu {P:Program} {tk:TypeId} {kd:IntKind} (hk:P.underlying tk=some (.int kd)):oN P tk kT where
 find k l w:=by
  have h:=H6 (kd:=kd) k l 0;simp only [fc,Instr.findKey,Sem.run_bind,run_underlying hk,Result.andThen,h,Nat.zero_add,Sem.run_pure]
 check e k w:=Wd hk e 9999
 same k:=by simp [kT,Instr.sameBits]
variable {K:Type} [DecidableEq K] {enc:K→Value}
theorem kn.iz {P:Program} {σ:List (Nat × Value)} {g:bn} {U ζ:List az} {t tk te:TypeId} {x y z:Operand} {b c:Nat} {l:List (cr K)} {key:K} {v:Value} (ht:P.underlying t=some (.map tk te)) (hk:oN P tk enc) (hx:aA σ x=some (.map (some b))) (hy:aA σ y=some (enc (key))) (hz:aA σ z=some v) (hs:bg U (cu enc b l c) ζ) :
  kn P (.insert t x y z) σ g U (cu enc b (iD l c key v) (kR l c key)::ζ) :=
 fun o ρ w ho hkn hw=>by
  have hw1:=hw.cB hs;refine ⟨_,?_,hw1.putObj _⟩;have:=Lb (P:=P) (key:=key) (v:=v) ht hk hw1.block
  simp [execOp,ho,hkn x _ hx,hkn y _ hy,hkn z _ hz,this]
end Go.Sp
