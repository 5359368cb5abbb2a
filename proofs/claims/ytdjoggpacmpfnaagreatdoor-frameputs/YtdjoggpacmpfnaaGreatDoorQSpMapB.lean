/- Texts of this proof. -/
import Derived.Test.YtdjoggpacmpfnaaGreatDoorQSpLaid
namespace Go.Sp
def k5 (k:UInt8):Value:=.int .u8 (k.toNat:Int)
theorem Rq (a b:UInt8):((a.toNat:Int) ==(b.toNat:Int))=decide (a=b):=by
 by_cases h:a=b
 ·subst h;simp
 ·have:¬ (a.toNat:Int)=b.toNat:=fun e=>h (D5 e)
  simp [h,this]
theorem LQ {kd:IntKind} (k:UInt8):∀ (l:List (kE UInt8)) (i:Nat),Instr.findNow (.int kd) (k5 k) (l.map (tI k5)) i=some ((fN l k).map fun v=>(i+(l.findIdx fun x=>x.1 ==k),v))
 |[],_=>rfl
 |x::l,i=>by
  have ih:=LQ (kd:=kd) k l (i+1);simp only [List.map_cons,Instr.findNow,tI];have hs:Instr.sameNow (.int kd) (k5 k) (k5 x.1)=some (decide (k=x.1)):=by
   simp only [k5,Instr.sameNow,if_true,Rq]
  rw [hs]
  by_cases h:x.1=k
  ·subst h;simp [fN,List.findIdx_cons]
  ·rw [decide_eq_false (fun e=>h e.symm)]
   simp only
   rw [ih];have h2:(x.1 ==k)=false:=by simpa using h
   simp only [fN,if_neg h,List.findIdx_cons,h2]
   cases fN l k with
   |none=>rfl
   |some v=>simp;omega
theorem abM {P:Program} {tk:TypeId} {kd:IntKind} {k:UInt8} {w:World} (hk:P.underlying tk=some (.int kd)) (e:Bool) (n:Nat):(Instr.checkKey e (n+1) tk (k5 k)).run P w=.ok () w:=by
 simp only [Instr.checkKey,Sem.run_bind,run_underlying hk,Result.andThen,k5]
 rfl
theorem eI {P:Program} {tk:TypeId} {kd:IntKind} (hk:P.underlying tk=some (.int kd)):y6 P tk k5 where
 find k l w:=by
  have h:=LQ (kd:=kd) k l 0;simp only [o4,Instr.findKey,Sem.run_bind,run_underlying hk,Result.andThen,h,Nat.zero_add,Sem.run_pure]
 check e k w:=abM hk e 9999
 same k:=by simp [k5,Instr.sameBits]
variable {K:Type} [DecidableEq K] {enc:K→Value}
theorem mB.gf {P:Program} {σ:List (Nat × Value)} {g:bp} {aa ζ:List az} {t tk te:TypeId} {x y z:Operand} {b c:Nat} {l:List (kE K)} {key:K} {v:Value} (ht:P.underlying t=some (.map tk te)) (hk:y6 P tk enc) (hx:aE σ x=some (.map (some b))) (hy:aE σ y=some (enc (key))) (hz:aE σ z=some v) (hs:bA aa (xz enc b l c) ζ) :
  mB P (.insert t x y z) σ g aa (xz enc b (u6 l c key v) (Cf l c key)::ζ) :=
 fun o ρ w ho hkn hw=>by
  have hw1:=hw.eJ hs;refine ⟨_,?_,hw1.putObj _⟩;have:=abS (P:=P) (key:=key) (v:=v) ht hk hw1.block
  simp [execOp,ho,hkn x _ hx,hkn y _ hy,hkn z _ hz,this]
end Go.Sp
