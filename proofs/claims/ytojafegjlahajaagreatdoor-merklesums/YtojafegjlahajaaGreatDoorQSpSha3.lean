/- Texts of this proof. -/
import Derived.Test.YtojafegjlahajaaGreatDoorQSpLaid
open Go
namespace Go.Sp
def Rp.w64:Rp U64:={ k:=1,rel:=fun _ cs x=>cs=[Go.Sp.w64 x],len:=fun h=>by rw [h];rfl,mono:=fun _ h=>h,one:=fun h c hc=>by rw [h] at hc;simp at hc;subst hc;rfl }
theorem pure_w64:Rp.w64.Pure:=fun _ _ _ h=>h
theorem shl8_add (x : U64) (c : UInt8) : x <<< 8 + UInt64.ofNat c.toNat = x <<< 8 ||| UInt64.ofNat c.toNat := by
 apply UInt64.toBitVec_inj.1
 rw [UInt64.toBitVec_add,UInt64.toBitVec_or]
 apply BitVec.add_eq_or_of_and_eq_zero
 apply BitVec.eq_of_getLsbD_eq
 intro i hi
 have hc:(UInt64.ofNat c.toNat).toBitVec.getLsbD i=(c.toNat.testBit i):=by
  show (BitVec.ofNat 64 c.toNat).getLsbD i=_
  rw [BitVec.getLsbD_ofNat];simp [hi]
 by_cases h8:i<8
 ·have:(x <<<8).toBitVec.getLsbD i=false:=by
   rw [UInt64.toBitVec_shiftLeft]
   show (x.toBitVec <<<((8:BitVec 64) % 64)).getLsbD i=false
   rw [show ((8:BitVec 64) % 64)=8#64 from rfl,BitVec.shiftLeft_eq',BitVec.getLsbD_shiftLeft]
   simp [h8]
  rw [BitVec.getLsbD_and,this,Bool.false_and,BitVec.getLsbD_zero]
 ·have:c.toNat.testBit i=false:=Nat.testBit_lt_two_pow (Nat.lt_of_lt_of_le c.toNat_lt (Nat.pow_le_pow_right (by decide) (by omega:8≤i)))
  rw [BitVec.getLsbD_and,hc,this,Bool.and_false,BitVec.getLsbD_zero]
theorem zip_comm (v u:List U64):List.zipWith (·+·) v u=List.zipWith (·+·) u v:=List.zipWith_comm_of_comm (fun a b=>UInt64.add_comm a b)
theorem pad_whole (b:List UInt8):(b++padB b.length).length % 128=0:=by
 rw [List.length_append,padB,padN];simp only [List.length_append,List.length_cons,List.length_replicate,be_length]
 omega
theorem feedN_next (h:List U64) (b:List UInt8) (n:Nat):feedN h b (n+1)=shaBlk (feedN h b n) ((b.take (128*n+128)).drop (128*n)):=by
 rw [feedN,List.drop_take];congr 2;omega
end Go.Sp
