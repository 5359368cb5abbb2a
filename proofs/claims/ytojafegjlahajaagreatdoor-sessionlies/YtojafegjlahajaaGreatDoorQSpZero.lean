/- Texts of this proof. -/
import Derived.Test.YtojafegjlahajaaGreatDoorQSpRange
set_option linter.unusedSectionVars false
namespace Go.Sp
section
variable {P:Program} {σ:List (Nat × Value)} {g:bk} {U ζ aO:List az} {t e:TypeId} {x y:Operand} {α:Type} {T:ag α}
theorem bC.Mb {cn:Nat} {z:List Value} {a:α} {m:Nat} {t2:TypeId} {xW qb:IntKind} {v:Value} {xs:List α} (ht:P.underlying t=some (.slice e)) (ht2:P.underlying t2=some (.int xW)) (he:dG P e T.k cn z) (hk:0<T.k) (hz:T.rel Fr.emp z a)
  (hx:aA σ x=some v) {b_:Int} (hy:aA σ y=some (.int qb b_)) (dV:b_=(m:Int)) (hs:a_ U (av T e v xs) ζ) (hne:0<xs.length) (hb:(xs.length+m)*cn≤140737488355328) (h63:xs.length+m≤9223372036854775807) :
  bC P (.call ⟨.builtin .append,#[x,y],#[t,t2]⟩) σ g U fun v' ax =>∃ a' c,v' =.slice a' (xs.length+m) c∧ax =av T e v' (xs++List.replicate m a)::ζ:=by
 subst dV
 intro o ρ w ho hkn hw
 obtain ⟨b,cap,cur,ak,rfl,zC,qI,vl,tj,ha,fz,hfz,jS⟩:=(hw.cr hs).oA hne;obtain ⟨i,cw,hi,r0,hsz,hby,kM,hzl⟩:=he;subst hby kM;have hzs:cw.cells.size=T.k:=by simpa using hzl
 have wl:IntKind.i64.wrap (m:Int)=m:=by rw [IntKind.wrap_i64];omega
 have n1:¬ ((m:Int)<0):=by omega
 have hmb:m*i.bytes≤140737488355328:=Nat.le_trans (Nat.mul_le_mul_right _ (by omega)) hb;have n2:¬ (281474976710656<(m:Int)*(i.bytes:Int)):=by
  have:((m*i.bytes:Nat):Int)≤140737488355328:=by omega
  rw [Int.natCast_mul] at this;omega
 obtain ⟨dR,q1,q2⟩:=AV hz m;have p9:∀ q,(Builtin.zeroCells cw.cells q).toList=fe cw.cells.toList q:=fun q=>by
  have:=x7 cw.cells q (by omega);rw [← this];rfl
 have eb:ak.length=xs.length:=ha.length;have hfl:ak.flatten.length=xs.length*T.k:=by
  have hcs:cur.toList.length=cap*T.k:=by rw [Array.length_toList];exact vl
  rw [← tj,List.length_take,hcs,Nat.min_eq_left (Nat.mul_le_mul_right _ zC)]
 have fin:∀ h,Own (.slice (some ⟨b,0,none⟩) (xs.length+m) cap) T.k e (xs.length+m) (ak++dR).flatten h→av T e (.slice (some ⟨b,0,none⟩) (xs.length+m) cap) (xs++List.replicate m a) h :=
  av.of (ak:=ak++dR) (ha.append q1) (by simp) rfl rfl
 by_cases hm0:m=0
 ·subst hm0
  have hds:dR=[]:=by have:=q1.length;simpa using this
  subst hds;have hrun:(Builtin.append_ #[t,t2] o.type #[.slice (some ⟨b,0,none⟩) xs.length cap,.int qb ((0:Nat):Int)]).run P w=.ok (.slice (some ⟨b,0,none⟩) xs.length cap) w:=by
   have XB:IntKind.i64.wrap 0=0:=by rw [IntKind.wrap_i64];rfl
   simp [Builtin.append_,run_underlying ht,run_underlying ht2,sizeOf,typeInfo,hi,asInt,asIntOf,storeCells,zC,XB]
  refine ⟨_,w,_,⟨_,_,rfl,rfl⟩,qh ho (by rw [hkn x _ hx,hkn y _ hy];exact hrun),?_⟩;exact (jS.ua hfz (k:=T.k) (m:=xs.length) (cap:=cap) (cs:=ak.flatten) zC qI vl tj).imp fun _=>Sat.fk (fun h q=>fin h (by simpa using q)) fun _ q=>q
 have n6:¬ (m*T.k=0):=Nat.ne_of_gt (Nat.mul_pos (by omega) hk);have hlen:(ak++dR).flatten.length=(xs.length+m)*T.k:=by
  rw [List.flatten_append,List.length_append,hfl,q2,r8,Nat.add_mul];simp [hzs]
 by_cases hroom:xs.length+m≤cap
 ·have Q8:(fe cw.cells.toList m).length=m*T.k:=by rw [r8];simp [hzs]
  have hfit:xs.length*T.k+(fe cw.cells.toList m).length≤cur.size:=by rw [Q8,vl,← Nat.add_mul];exact Nat.mul_le_mul_right _ hroom
  have h1:∀ c∈fe cw.cells.toList m,c.oneCell' =true:=by rw [← q2];exact q1.one
  have hst:=sx P b (xs.length*T.k) e hfz (fe cw.cells.toList m) 0 cur w jS.block (by omega) (by simpa using hfit) h1;simp only [Nat.add_zero] at hst;have hrun:(Builtin.append_ #[t,t2] o.type #[.slice (some ⟨b,0,none⟩) xs.length cap,.int qb (m:Int)]).run P w =
    .ok (.slice (some ⟨b,0,none⟩) (xs.length+m) cap) (w.setRow b (cur.toList.take (xs.length*T.k)++fe cw.cells.toList m++cur.toList.drop (xs.length*T.k+(fe cw.cells.toList m).length)).toArray):=by
   simp [Builtin.append_,run_underlying ht,run_underlying ht2,sizeOf,typeInfo,zeroValue,hi,r0,asInt,asIntOf,wl,n1,n2,n6,hm0,hroom,Addr.add_lit,p9,hsz,hst]
  refine ⟨_,_,_,⟨_,_,rfl,rfl⟩,qh ho (by rw [hkn x _ hx,hkn y _ hy];exact hrun),?_⟩;refine (jS.setRow.ua hfz (k:=T.k) (m:=xs.length+m) (cap:=cap) (cs:=(ak++dR).flatten) hroom qI ?_ ?_).imp fun _=>Sat.fk fin fun _ q=>q
  ·simp only [List.size_toArray,List.length_append,List.length_take,List.length_drop,Array.length_toList]
   omega
  ·rw [tj,← hlen,List.flatten_append,q2]
   exact List.take_left
 ·have hrow:=jS.block
  have holds:∀ j u,ak.flatten[j]?=some u→w.cell? ((⟨b,0,none⟩:Addr).add j)=some u:=fun j u hj=>by
   rw [add_lit,Nat.zero_add];have hjl:=(List.getElem?_eq_some_iff.1 hj).1;rw [← tj,List.getElem?_take_of_lt (by omega)] at hj
   simpa [World.cell?,hrow] using hj
  have hfo:=run_firstCells_some (P:=P) w.drew T.k xs.length ⟨b,0,none⟩ xs.length cap ak.flatten hfl (by simpa using holds);have hge:=grownCap_ge w (xs.length+m) cap e;have hcm:=grownCap_le_maxLen w (xs.length+m) cap e (by simpa [maxLen] using h63);have pL:¬ (9223372036854775807<((xs.length:Int)+(m:Int))):=by omega
  have n5:¬ (281474976710656<Builtin.nextslicecap (xs.length+m) cap*i.bytes):=by have:=growslice_fits (need:=xs.length+m) (old:=cap) (by omega) hb;omega
  have hrun:(Builtin.append_ #[t,t2] o.type #[.slice (some ⟨b,0,none⟩) xs.length cap,.int qb (m:Int)]).run P w =
    .ok (.slice (some ⟨w.heap.size,0,none⟩) (xs.length+m) (grownCap w (xs.length+m) cap e)) (w.drew.alloc (.cells (ak.flatten.toArray++Builtin.zeroCells cw.cells m++Builtin.zeroCells cw.cells (grownCap w (xs.length+m) cap e - (xs.length+m))) e)):=by
   simp [Builtin.append_,run_underlying ht,run_underlying ht2,sizeOf,typeInfo,zeroValue,hi,r0,asInt,asIntOf,wl,n1,n2,pL,n5,n6,hm0,hroom,Question.forced,hsz,hfo,newRow,grownCap]
  refine ⟨_,_,_,⟨_,_,rfl,rfl⟩,qh ho (by rw [hkn x _ hx,hkn y _ hy];exact hrun),?_⟩;refine (((jS.drop.drewN _ (Nat.le_add_right _ _)).alloc _).own (k:=T.k) (m:=xs.length+m) (cap:=grownCap w (xs.length+m) cap e) (cs:=(ak++dR).flatten) hge (by simpa [maxLen] using hcm) ?_ ?_).imp fun _=>Sat.fk (av.of (ak:=ak++dR) (ha.append q1) (by simp) rfl rfl) fun _ q=>q
  ·simp only [Array.size_append,List.size_toArray,size_zeroCells,hzs,hfl,← Nat.add_mul]
   congr 1;omega
  ·rw [← hlen,Array.toList_append,Array.toList_append,p9,List.flatten_append,q2]
   exact List.take_left
end
end Go.Sp
