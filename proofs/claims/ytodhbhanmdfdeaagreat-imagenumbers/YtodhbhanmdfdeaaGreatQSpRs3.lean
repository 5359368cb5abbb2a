/- Texts of this proof. -/
import Derived.Test.YtodhbhanmdfdeaaGreatQSpGet
namespace Go.Sp
theorem setP_none {most:Int} {s:RS} {k:Nat} (hk:setP most k s=none):∀ {n:Nat},k≤n→setP most n s=none
 |0,h=>by (obtain rfl:k=0:=by omega);exact hk
 |n+1,h=>by
  by_cases e:k=n+1
  ·rw [← e];exact hk
  ·rw [setP,setP_none hk (n:=n) (by omega)];rfl
theorem sGet_none {b:List UInt8} {c:Int × RS} (hc:(RS.mk true b).count ((b.length / 8:Nat):Int)=c) {k:Nat} (h:k≤c.1.toNat) (hk:setP b.length k c.2=none):sGet b=none:=by
 unfold sGet;simp only;rw [hc,setP_none hk h];rfl
theorem sGet_eq {b:List UInt8} {c:Int × RS} (hc:(RS.mk true b).count ((b.length / 8:Nat):Int)=c) {p:List RecT × RS} (hp:setP b.length c.1.toNat c.2=some p):sGet b=if p.2.done=true∧SRight p.1 then some p.1 else none:=by
 unfold sGet;simp only;rw [hc,hp];rfl
theorem setP_next {most:Int} {s:RS} {i:Nat} {p:List RecT × RS} (h:setP most i s=some p) {x:RecT} (hx:recGet (p.2.bytes most).1=some x):setP most (i+1) s=some (p.1++[x],(p.2.bytes most).2):=by
 rw [setP,h,Option.bind_some,hx];rfl
theorem setP_stop {most:Int} {s:RS} {i:Nat} {p:List RecT × RS} (h:setP most i s=some p) (hx:recGet (p.2.bytes most).1=none):setP most (i+1) s=none:=by
 rw [setP,h,Option.bind_some,hx];rfl
theorem setP_len {most:Int} {s:RS}:∀ {n:Nat} {p:List RecT × RS},setP most n s=some p→p.2.rest.length≤s.rest.length
 |0,_,h=>by cases h;exact Nat.le_refl _
 |n+1,p,h=>by
  obtain ⟨q,hq,h⟩:=Option.bind_eq_some_iff.1 h;obtain ⟨x,_,rfl⟩:=Option.map_eq_some_iff.1 h;exact Nat.le_trans (RS.bytes_len _ _) (setP_len hq)
theorem someP_none {α:Type} {one:RS→Option (α × RS)} {s:RS} {k:Nat} (hk:someP one k s=none):∀ {n:Nat},k≤n→someP one n s=none
 |0,h=>by (obtain rfl:k=0:=by omega);exact hk
 |n+1,h=>by
  by_cases e:k=n+1
  ·rw [← e];exact hk
  ·rw [someP,someP_none hk (n:=n) (by omega)];rfl
theorem someP_next {α:Type} {one:RS→Option (α × RS)} {s:RS} {i:Nat} {p:List α × RS} (h:someP one i s=some p) (hg:p.2.good=true) {q:α × RS} (hq:one p.2=some q):someP one (i+1) s=some (p.1++[q.1],q.2):=by
 rw [someP,h,Option.bind_some,if_pos hg,hq];rfl
theorem someP_bad {α:Type} {one:RS→Option (α × RS)} {s:RS} {i:Nat} {p:List α × RS} (h:someP one i s=some p) (hg:p.2.good=false):someP one (i+1) s=none:=by
 rw [someP,h,Option.bind_some,if_neg (by rw [hg];decide)]
theorem someP_stop {α:Type} {one:RS→Option (α × RS)} {s:RS} {i:Nat} {p:List α × RS} (h:someP one i s=some p) (hq:one p.2=none):someP one (i+1) s=none:=by
 rw [someP,h,Option.bind_some];split
 ·rw [hq];rfl
 ·rfl
theorem someP_count {α:Type} {one:RS→Option (α × RS)} {s:RS}:∀ {n:Nat} {p:List α × RS},someP one n s=some p→p.1.length=n
 |0,_,h=>by cases h;rfl
 |n+1,p,h=>by
  obtain ⟨q,hq,h⟩:=Option.bind_eq_some_iff.1 h
  split at h
  ·obtain ⟨x,_,rfl⟩:=Option.map_eq_some_iff.1 h
   simp [someP_count hq]
  ·cases h
theorem someP_len {α:Type} {one:RS→Option (α × RS)} (ho:∀ s q,one s=some q→q.2.rest.length≤s.rest.length) {s:RS}:∀ {n:Nat} {p:List α × RS},someP one n s=some p→p.2.rest.length≤s.rest.length
 |0,_,h=>by cases h;exact Nat.le_refl _
 |n+1,p,h=>by
  obtain ⟨q,hq,h⟩:=Option.bind_eq_some_iff.1 h
  split at h
  ·obtain ⟨x,hx,rfl⟩:=Option.map_eq_some_iff.1 h
   exact Nat.le_trans (ho _ _ hx) (someP_len ho hq)
  ·cases h
theorem leafP_len:∀ (s:RS) (q:LeafT × RS),leafP s=some q→q.2.rest.length≤s.rest.length:=fun s q h=>by
 obtain ⟨l,_,rfl⟩:=Option.map_eq_some_iff.1 h;exact Nat.le_trans (RS.bytes_len _ _) (RS.bytes_len _ _)
theorem ownP_len:∀ (s:RS) (q:RootT × RS),ownP s=some q→q.2.rest.length≤s.rest.length:=fun s q h=>by
 obtain ⟨l,_,rfl⟩:=Option.map_eq_some_iff.1 h;exact RS.bytes_len _ _
theorem proofP_len:∀ (s:RS) (q:EvdT × RS),proofP s=some q→q.2.rest.length≤s.rest.length:=fun s q h=>by
 obtain ⟨l,_,rfl⟩:=Option.map_eq_some_iff.1 h;exact RS.bytes_len _ _
theorem numP_len:∀ (s:RS) (q:Int × RS),numP s=some q→q.2.rest.length≤s.rest.length:=fun s q h=>by
 cases h;exact RS.num_len _
theorem rowP_len {α:Type} {one:RS→Option (α × RS)} (ho:∀ s q,one s=some q→q.2.rest.length≤s.rest.length) {s:RS} {p:List α × RS} (h:rowP one s=some p):p.2.rest.length≤s.rest.length:=Nat.le_trans (someP_len ho h) (RS.count_len _ _)
end Go.Sp
