/- Texts of this proof. -/
import Derived.Test.YtojafegjlahajaaGreatDoorQSpLaid
set_option linter.unusedSectionVars false
namespace Go.Sp
def encB (k:UInt8):Value:=.int .u8 (k.toNat:Int)
theorem byte_beq (a b:UInt8):((a.toNat:Int) ==(b.toNat:Int))=decide (a=b):=by
 by_cases h:a=b
 ·subst h;simp
 ·have:¬ (a.toNat:Int)=b.toNat:=fun e=>h (u8_inj e)
  simp [h,this]
theorem findNow_keyB {kd:IntKind} (k:UInt8):∀ (l:List (KEnt UInt8)) (i:Nat),Instr.findNow (.int kd) (encB k) (l.map (kEnt encB)) i=some ((getK l k).map fun v=>(i+(l.findIdx fun x=>x.1 ==k),v))
 |[],_=>rfl
 |x::l,i=>by
  have ih:=findNow_keyB (kd:=kd) k l (i+1);simp only [List.map_cons,Instr.findNow,kEnt];have hs:Instr.sameNow (.int kd) (encB k) (encB x.1)=some (decide (k=x.1)):=by
   simp only [encB,Instr.sameNow,if_true,byte_beq]
  rw [hs]
  by_cases h:x.1=k
  ·subst h;simp [getK,List.findIdx_cons]
  ·rw [decide_eq_false (fun e=>h e.symm)]
   simp only
   rw [ih];have h2:(x.1 ==k)=false:=by simpa using h
   simp only [getK,if_neg h,List.findIdx_cons,h2]
   cases getK l k with
   |none=>rfl
   |some v=>simp;omega
theorem run_checkKey_int {P:Program} {tk:TypeId} {kd:IntKind} {k:UInt8} {w:World} (hk:P.underlying tk=some (.int kd)) (e:Bool) (n:Nat):(Instr.checkKey e (n+1) tk (encB k)).run P w=.ok () w:=by
 simp only [Instr.checkKey,Sem.run_bind,run_underlying hk,Result.andThen,encB]
 rfl
theorem keyOkB {P:Program} {tk:TypeId} {kd:IntKind} (hk:P.underlying tk=some (.int kd)):KeyOk P tk encB where
 find k l w:=by
  have h:=findNow_keyB (kd:=kd) k l 0;simp only [kEs,Instr.findKey,Sem.run_bind,run_underlying hk,Result.andThen,h,Nat.zero_add,Sem.run_pure]
 check e k w:=run_checkKey_int hk e 9999
 same k:=by simp [encB,Instr.sameBits]
variable {K:Type} [DecidableEq K] {enc:K→Value}
theorem DoesU.insertK {P:Program} {σ:List (Nat × Value)} {g:Gr} {η ζ:List SProp} {t tk te:TypeId} {x y z:Operand} {b c:Nat} {l:List (KEnt K)} {key:K} {v:Value} (ht:P.underlying t=some (.map tk te)) (hk:KeyOk P tk enc) (hx:ev σ x=some (.map (some b))) (hy:ev σ y=some (enc (key))) (hz:ev σ z=some v) (hs:Sel η (MapK enc b l c) ζ) :
  DoesU P (.insert t x y z) σ g η (MapK enc b (putK l c key v) (clkK l c key)::ζ) :=
 fun o ρ w ho hkn hw=>by
  have hw1:=hw.sel hs;refine ⟨_,?_,hw1.putObj _⟩;have:=run_mapUpdate_key (P:=P) (key:=key) (v:=v) ht hk hw1.block
  simp [execOp,ho,hkn x _ hx,hkn y _ hy,hkn z _ hz,this]
end Go.Sp
