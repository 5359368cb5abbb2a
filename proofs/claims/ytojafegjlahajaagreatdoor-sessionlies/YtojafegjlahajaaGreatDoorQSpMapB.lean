/- Texts of this proof. -/
import Derived.Test.YtojafegjlahajaaGreatDoorQSpLaid
set_option linter.unusedSectionVars false
namespace Go.Sp
def kU (k:UInt8):Value:=.int .u8 (k.toNat:Int)
theorem ME (a b:UInt8):((a.toNat:Int) ==(b.toNat:Int))=decide (a=b):=by
 by_cases h:a=b
 ·subst h;simp
 ·have:¬ (a.toNat:Int)=b.toNat:=fun e=>h (Lv e)
  simp [h,this]
theorem HB {kd:IntKind} (k:UInt8):∀ (l:List (cg UInt8)) (i:Nat),Instr.findNow (.int kd) (kU k) (l.map (h_ kU)) i=some ((cE l k).map fun v=>(i+(l.findIdx fun x=>x.1 ==k),v))
 |[],_=>rfl
 |x::l,i=>by
  have ih:=HB (kd:=kd) k l (i+1);simp only [List.map_cons,Instr.findNow,h_];have hs:Instr.sameNow (.int kd) (kU k) (kU x.1)=some (decide (k=x.1)):=by
   simp only [kU,Instr.sameNow,if_true,ME]
  rw [hs]
  by_cases h:x.1=k
  ·subst h;simp [cE,List.findIdx_cons]
  ·rw [decide_eq_false (fun e=>h e.symm)]
   simp only
   rw [ih];have h2:(x.1 ==k)=false:=by simpa using h
   simp only [cE,if_neg h,List.findIdx_cons,h2]
   cases cE l k with
   |none=>rfl
   |some v=>simp;omega
theorem Vz {P:Program} {tk:TypeId} {kd:IntKind} {k:UInt8} {w:World} (hk:P.underlying tk=some (.int kd)) (e:Bool) (n:Nat):(Instr.checkKey e (n+1) tk (kU k)).run P w=.ok () w:=by
 simp only [Instr.checkKey,Sem.run_bind,run_underlying hk,Result.andThen,kU]
 rfl
theorem fu {P:Program} {tk:TypeId} {kd:IntKind} (hk:P.underlying tk=some (.int kd)):oO P tk kU where
 find k l w:=by
  have h:=HB (kd:=kd) k l 0;simp only [fc,Instr.findKey,Sem.run_bind,run_underlying hk,Result.andThen,h,Nat.zero_add,Sem.run_pure]
 check e k w:=Vz hk e 9999
 same k:=by simp [kU,Instr.sameBits]
variable {K:Type} [DecidableEq K] {enc:K→Value}
theorem ku.iH {P:Program} {σ:List (Nat × Value)} {g:bk} {U ζ:List az} {t tk te:TypeId} {x y z:Operand} {b c:Nat} {l:List (cg K)} {key:K} {v:Value} (ht:P.underlying t=some (.map tk te)) (hk:oO P tk enc) (hx:aA σ x=some (.map (some b))) (hy:aA σ y=some (enc (key))) (hz:aA σ z=some v) (hs:a_ U (ck enc b l c) ζ) :
  ku P (.insert t x y z) σ g U (ck enc b (iI l c key v) (kT l c key)::ζ) :=
 fun o ρ w ho hkn hw=>by
  have hw1:=hw.cr hs;refine ⟨_,?_,hw1.putObj _⟩;have:=KF (P:=P) (key:=key) (v:=v) ht hk hw1.block
  simp [execOp,ho,hkn x _ hx,hkn y _ hy,hkn z _ hz,this]
end Go.Sp
