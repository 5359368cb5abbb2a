/- Texts of this proof. -/
import Derived.Test.YtojafegjlahajaaGreatDoorQSpOpen
set_option linter.unusedSectionVars false
namespace Go.Sp
section
variable {P:Program} {σ:List (Nat × Value)} {g:bn} {U ζ aO:List az} {t e:TypeId} {x y:Operand} {α:Type} {T:ag α}
theorem bF.MD {cw:Nat} {z:List Value} {a:α} {m:Nat} {t2:TypeId} {xY qa:IntKind} {v:Value} {xs:List α} (ht:P.underlying t=some (.slice e)) (ht2:P.underlying t2=some (.int xY)) (he:dI P e T.k cw z) (hk:0<T.k) (hz:T.rel Fr.emp z a)
  (hx:aA σ x=some v) {cq:Int} (hy:aA σ y=some (.int qa cq)) (dZ:cq=(m:Int)) (hs:bg U (av T e v xs) ζ) (hne:0<xs.length) (hb:(xs.length+m)*cw≤140737488355328) (h63:xs.length+m≤9223372036854775807) :
  bF P (.call ⟨.builtin .append,#[x,y],#[t,t2]⟩) σ g U fun v' ax =>∃ a' c,v' =.slice a' (xs.length+m) c∧ax =av T e v' (xs++List.replicate m a)::ζ:=by
 subst dZ
 intro o ρ w ho hkn hw
 obtain ⟨b,cap,cur,ak,rfl,zL,qJ,vn,tv,ha,fz,hfz,jN⟩:=(hw.cB hs).oD hne;obtain ⟨i,cE,hi,r7,hsz,hby,kJ,hzl⟩:=he;subst hby kJ;have hzs:cE.cells.size=T.k:=by simpa using hzl
 have wl:IntKind.i64.wrap (m:Int)=m:=by rw [IntKind.wrap_i64];omega
 have n1:¬ ((m:Int)<0):=by omega
 have hmb:m*i.bytes≤140737488355328:=Nat.le_trans (Nat.mul_le_mul_right _ (by omega)) hb;have n2:¬ (281474976710656<(m:Int)*(i.bytes:Int)):=by
  have:((m*i.bytes:Nat):Int)≤140737488355328:=by omega
  rw [Int.natCast_mul] at this;omega
 obtain ⟨dW,q1,q2⟩:=A5 hz m;have p9:∀ q,(Builtin.zeroCells cE.cells q).toList=fe cE.cells.toList q:=fun q=>by
  have:=x8 cE.cells q (by omega);rw [← this];rfl
 have ec:ak.length=xs.length:=ha.length;have hfl:ak.flatten.length=xs.length*T.k:=by
  have hcs:cur.toList.length=cap*T.k:=by rw [Array.length_toList];exact vn
  rw [← tv,List.length_take,hcs,Nat.min_eq_left (Nat.mul_le_mul_right _ zL)]
 have fin:∀ h,Own (.slice (some ⟨b,0,none⟩) (xs.length+m) cap) T.k e (xs.length+m) (ak++dW).flatten h→av T e (.slice (some ⟨b,0,none⟩) (xs.length+m) cap) (xs++List.replicate m a) h :=
  av.of (ak:=ak++dW) (ha.append q1) (by simp) rfl rfl
 by_cases hm0:m=0
 ·subst hm0
  have hds:dW=[]:=by have:=q1.length;simpa using this
  subst hds;have hrun:(Builtin.append_ #[t,t2] o.type #[.slice (some ⟨b,0,none⟩) xs.length cap,.int qa ((0:Nat):Int)]).run P w=.ok (.slice (some ⟨b,0,none⟩) xs.length cap) w:=by
   have Yj:IntKind.i64.wrap 0=0:=by rw [IntKind.wrap_i64];rfl
   simp [Builtin.append_,run_underlying ht,run_underlying ht2,sizeOf,typeInfo,hi,asInt,asIntOf,storeCells,zL,Yj]
  refine ⟨_,w,_,⟨_,_,rfl,rfl⟩,qg ho (by rw [hkn x _ hx,hkn y _ hy];exact hrun),?_⟩;exact (jN.uo hfz (k:=T.k) (m:=xs.length) (cap:=cap) (cs:=ak.flatten) zL qJ vn tv).imp fun _=>Sat.fk (fun h q=>fin h (by simpa using q)) fun _ q=>q
 have n6:¬ (m*T.k=0):=Nat.ne_of_gt (Nat.mul_pos (by omega) hk);have hlen:(ak++dW).flatten.length=(xs.length+m)*T.k:=by
  rw [List.flatten_append,List.length_append,hfl,q2,sj,Nat.add_mul];simp [hzs]
 by_cases hroom:xs.length+m≤cap
 ·have RE:(fe cE.cells.toList m).length=m*T.k:=by rw [sj];simp [hzs]
  have hfit:xs.length*T.k+(fe cE.cells.toList m).length≤cur.size:=by rw [RE,vn,← Nat.add_mul];exact Nat.mul_le_mul_right _ hroom
  have h1:∀ c∈fe cE.cells.toList m,c.oneCell' =true:=by rw [← q2];exact q1.one
  have hst:=sE P b (xs.length*T.k) e hfz (fe cE.cells.toList m) 0 cur w jN.block (by omega) (by simpa using hfit) h1;simp only [Nat.add_zero] at hst;have hrun:(Builtin.append_ #[t,t2] o.type #[.slice (some ⟨b,0,none⟩) xs.length cap,.int qa (m:Int)]).run P w =
    .ok (.slice (some ⟨b,0,none⟩) (xs.length+m) cap) (w.setRow b (cur.toList.take (xs.length*T.k)++fe cE.cells.toList m++cur.toList.drop (xs.length*T.k+(fe cE.cells.toList m).length)).toArray):=by
   simp [Builtin.append_,run_underlying ht,run_underlying ht2,sizeOf,typeInfo,zeroValue,hi,r7,asInt,asIntOf,wl,n1,n2,n6,hm0,hroom,Addr.add_lit,p9,hsz,hst]
  refine ⟨_,_,_,⟨_,_,rfl,rfl⟩,qg ho (by rw [hkn x _ hx,hkn y _ hy];exact hrun),?_⟩;refine (jN.setRow.uo hfz (k:=T.k) (m:=xs.length+m) (cap:=cap) (cs:=(ak++dW).flatten) hroom qJ ?_ ?_).imp fun _=>Sat.fk fin fun _ q=>q
  ·simp only [List.size_toArray,List.length_append,List.length_take,List.length_drop,Array.length_toList]
   omega
  ·rw [tv,← hlen,List.flatten_append,q2]
   exact List.take_left
 ·have hrow:=jN.block
  have holds:∀ j u,ak.flatten[j]?=some u→w.cell? ((⟨b,0,none⟩:Addr).add j)=some u:=fun j u hj=>by
   rw [add_lit,Nat.zero_add];have hjl:=(List.getElem?_eq_some_iff.1 hj).1;rw [← tv,List.getElem?_take_of_lt (by omega)] at hj
   simpa [World.cell?,hrow] using hj
  have hfo:=run_firstCells_some (P:=P) w.drew T.k xs.length ⟨b,0,none⟩ xs.length cap ak.flatten hfl (by simpa using holds);have hge:=grownCap_ge w (xs.length+m) cap e;have hcm:=grownCap_le_maxLen w (xs.length+m) cap e (by simpa [maxLen] using h63);have pL:¬ (9223372036854775807<((xs.length:Int)+(m:Int))):=by omega
  have n5:¬ (281474976710656<Builtin.nextslicecap (xs.length+m) cap*i.bytes):=by have:=growslice_fits (need:=xs.length+m) (old:=cap) (by omega) hb;omega
  have hrun:(Builtin.append_ #[t,t2] o.type #[.slice (some ⟨b,0,none⟩) xs.length cap,.int qa (m:Int)]).run P w =
    .ok (.slice (some ⟨w.heap.size,0,none⟩) (xs.length+m) (grownCap w (xs.length+m) cap e)) (w.drew.alloc (.cells (ak.flatten.toArray++Builtin.zeroCells cE.cells m++Builtin.zeroCells cE.cells (grownCap w (xs.length+m) cap e - (xs.length+m))) e)):=by
   simp [Builtin.append_,run_underlying ht,run_underlying ht2,sizeOf,typeInfo,zeroValue,hi,r7,asInt,asIntOf,wl,n1,n2,pL,n5,n6,hm0,hroom,Question.forced,hsz,hfo,newRow,grownCap]
  refine ⟨_,_,_,⟨_,_,rfl,rfl⟩,qg ho (by rw [hkn x _ hx,hkn y _ hy];exact hrun),?_⟩;refine (((jN.drop.drewN _ (Nat.le_add_right _ _)).alloc _).own (k:=T.k) (m:=xs.length+m) (cap:=grownCap w (xs.length+m) cap e) (cs:=(ak++dW).flatten) hge (by simpa [maxLen] using hcm) ?_ ?_).imp fun _=>Sat.fk (av.of (ak:=ak++dW) (ha.append q1) (by simp) rfl rfl) fun _ q=>q
  ·simp only [Array.size_append,List.size_toArray,size_zeroCells,hzs,hfl,← Nat.add_mul]
   congr 1;omega
  ·rw [← hlen,Array.toList_append,Array.toList_append,p9,List.flatten_append,q2]
   exact List.take_left
end
end Go.Sp
