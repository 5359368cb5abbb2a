/- Texts of this proof. -/
import Derived.Test.YtodhbhanmdfdeaaGreatQSpGet
namespace Go.Sp
theorem setP_none {most:Int} {s:RS} {k:Nat} (hk:setP most k s=none):∀ {n:Nat},k≤n→setP most n s=none
 |0,h=>by (obtain rfl:k=0:=by omega);exact hk
 |n+1,h=>by
  by_cases e:k=n+1
  ·rw [← e];exact hk
  ·rw [setP,setP_none hk (n:=n) (by omega)];rfl
theorem sGet_none {b:List UInt8} {c:Int × RS} (hc:(RS.mk true b).count ((b.length / 8:Nat):Int)=c) {k:Nat} (h:k≤c.1.toNat) (hk:setP b.length k c.2=none):sGet b=none:=by
 unfold sGet;simp only;rw [hc,setP_none hk h];rfl
theorem sGet_eq {b:List UInt8} {c:Int × RS} (hc:(RS.mk true b).count ((b.length / 8:Nat):Int)=c) {p:List RecT × RS} (hp:setP b.length c.1.toNat c.2=some p):sGet b=if p.2.done=true∧SRight p.1 then some p.1 else none:=by
 unfold sGet;simp only;rw [hc,hp];rfl
theorem setP_next {most:Int} {s:RS} {i:Nat} {p:List RecT × RS} (h:setP most i s=some p) {x:RecT} (hx:recGet (p.2.bytes most).1=some x):setP most (i+1) s=some (p.1++[x],(p.2.bytes most).2):=by
 rw [setP,h,Option.bind_some,hx];rfl
theorem setP_stop {most:Int} {s:RS} {i:Nat} {p:List RecT × RS} (h:setP most i s=some p) (hx:recGet (p.2.bytes most).1=none):setP most (i+1) s=none:=by
 rw [setP,h,Option.bind_some,hx];rfl
theorem setP_len {most:Int} {s:RS}:∀ {n:Nat} {p:List RecT × RS},setP most n s=some p→p.2.rest.length≤s.rest.length
 |0,_,h=>by cases h;exact Nat.le_refl _
 |n+1,p,h=>by
  obtain ⟨q,hq,h⟩:=Option.bind_eq_some_iff.1 h;obtain ⟨x,_,rfl⟩:=Option.map_eq_some_iff.1 h;exact Nat.le_trans (RS.bytes_len _ _) (setP_len hq)
end Go.Sp
