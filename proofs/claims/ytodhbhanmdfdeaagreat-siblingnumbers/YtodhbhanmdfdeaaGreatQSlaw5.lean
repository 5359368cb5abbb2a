/- Texts of this proof. -/
import Derived.Test.YtodhbhanmdfdeaaGreatQGref9
import Derived.Test.YtodhbhanmdfdeaaGreatQSpRs5
open Go Go.Sp Go.Proofs.Tryz
set_option maxRecDepth 100000
set_option maxHeartbeats 1000000
attribute [local irreducible] obj Own OwnP
namespace Go.Proofs.YtodhbhanmdfdeaaGreat
theorem sGetU_c {r:Fr} {va:Value} {b:List UInt8} (ha:Arr Rp.u8 r va b) (hl:b.length≤1000000000) :
  Con prog 50 #[va] r [] (Ret fun v η=>∃ a c,v=.tuple #[.slice a (setO b).length c,.int .i64 (setE b)]∧η=[ListP (RecG tys) 74 (.slice a (setO b).length c) (setO b)]) :=
 (sGet_c ha hl).post fun e η h w g hw=>by
  cases e with
  |returned v =>
   cases e:sGet b with
   |some x =>
    obtain ⟨a0,c0,rfl,rfl⟩:=set_tY e h;have e1:setO b=x:=by simp [setO,e]
    have e2:setE b=0:=by simp [setE,e]
    exact ⟨_,⟨a0,c0,by rw [e1,e2],rfl⟩,by rw [e1];exact hw⟩
   |none =>
    obtain ⟨rfl,rfl⟩:=set_tN e h;have e1:setO b=[]:=by simp [setO,e]
    have e2:setE b=4:=by simp [setE,e]
    exact ⟨_,⟨none,0,by rw [e1,e2];rfl,rfl⟩,by rw [e1];exact hw.imp fun m x=>sat_listNil x⟩
  |panicked _=>exact h.elim
  |outgrown=>exact h.elim
theorem setO_ok {b:List UInt8} (hb:b.length≤1000000000):∀ x∈setO b,recOk x=true:=by
 unfold setO
 cases e:sGet b with
 |none=>exact fun _ h=>by cases h
 |some l=>exact oneK_all ((sGet_iff zD).1 e).1.1
theorem setO_le {b:List UInt8} (hb:b.length≤20000):(setO b).length≤2500:=by
 have:=sGet_size (b:=b) zD;unfold setO
 omega
theorem listP_one {v:Value} {xs:List RecT} {m:Fr} (h:Sat [ListP (RecG tys) 74 v xs] m):Arr RecRp m v xs:=by
 obtain ⟨m1,_,_,s1,_,x,_⟩:=h;exact (ListP.arr x).mono s1
end Go.Proofs.YtodhbhanmdfdeaaGreat
