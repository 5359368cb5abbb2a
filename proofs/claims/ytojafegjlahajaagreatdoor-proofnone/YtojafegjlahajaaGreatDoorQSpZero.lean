/- Texts of this proof. -/
import Derived.Test.YtojafegjlahajaaGreatDoorQSpKit
set_option linter.unusedSectionVars false
namespace Go.Sp
section
variable {P:Program} {σ:List (Nat × Value)} {g:Gr} {η ζ θ:List SProp} {t e:TypeId} {x y:Operand} {α:Type} {T:Rp α}
theorem DoesE.appendZ {by_:Nat} {z:List Value} {a:α} {m:Nat} {t2:TypeId} {ki kj:IntKind} {v:Value} {xs:List α} (ht:P.underlying t=some (.slice e)) (ht2:P.underlying t2=some (.int ki)) (he:elemIs P e T.k by_ z) (hk:0<T.k) (hz:T.rel Fr.emp z a)
  (hx:ev σ x=some v) {zi:Int} (hy:ev σ y=some (.int kj zi)) (hzi:zi=(m:Int)) (hs:Sel η (OwnP T e v xs) ζ) (hne:0<xs.length) (hb:(xs.length+m)*by_≤140737488355328) (h63:xs.length+m≤9223372036854775807) :
  DoesE P (.call ⟨.builtin .append,#[x,y],#[t,t2]⟩) σ g η fun v' η' =>∃ a' c,v' =.slice a' (xs.length+m) c∧η' =OwnP T e v' (xs++List.replicate m a)::ζ:=by
 subst hzi
 intro o ρ w ho hkn hw
 obtain ⟨b,cap,cur,css,rfl,h1',h2',h3',h4',ha,fz,hfz,hwb⟩:=(hw.sel hs).ownP_block hne;obtain ⟨i,zv,hi,hzz,hsz,hby,hzc,hzl⟩:=he;subst hby hzc;have hzs:zv.cells.size=T.k:=by simpa using hzl
 have wl:IntKind.i64.wrap (m:Int)=m:=by rw [IntKind.wrap_i64];omega
 have n1:¬ ((m:Int)<0):=by omega
 have hmb:m*i.bytes≤140737488355328:=Nat.le_trans (Nat.mul_le_mul_right _ (by omega)) hb;have n2:¬ (281474976710656<(m:Int)*(i.bytes:Int)):=by
  have:((m*i.bytes:Nat):Int)≤140737488355328:=by omega
  rw [Int.natCast_mul] at this;omega
 obtain ⟨dss,q1,q2⟩:=reps_flat hz m;have hzr:∀ q,(Builtin.zeroCells zv.cells q).toList=reps zv.cells.toList q:=fun q=>by
  have:=madeCells_reps zv.cells q (by omega);rw [← this];rfl
 have hcl:css.length=xs.length:=ha.length;have hfl:css.flatten.length=xs.length*T.k:=by
  have hcs:cur.toList.length=cap*T.k:=by rw [Array.length_toList];exact h3'
  rw [← h4',List.length_take,hcs,Nat.min_eq_left (Nat.mul_le_mul_right _ h1')]
 have fin:∀ h,Own (.slice (some ⟨b,0,none⟩) (xs.length+m) cap) T.k e (xs.length+m) (css++dss).flatten h→OwnP T e (.slice (some ⟨b,0,none⟩) (xs.length+m) cap) (xs++List.replicate m a) h :=
  OwnP.of (css:=css++dss) (ha.append q1) (by simp) rfl rfl
 by_cases hm0:m=0
 ·subst hm0
  have hds:dss=[]:=by have:=q1.length;simpa using this
  subst hds;have hrun:(Builtin.append_ #[t,t2] o.type #[.slice (some ⟨b,0,none⟩) xs.length cap,.int kj ((0:Nat):Int)]).run P w=.ok (.slice (some ⟨b,0,none⟩) xs.length cap) w:=by
   have wl0:IntKind.i64.wrap 0=0:=by rw [IntKind.wrap_i64];rfl
   simp [Builtin.append_,run_underlying ht,run_underlying ht2,sizeOf,typeInfo,hi,asInt,asIntOf,storeCells,h1',wl0]
  refine ⟨_,w,_,⟨_,_,rfl,rfl⟩,run_append_args ho (by rw [hkn x _ hx,hkn y _ hy];exact hrun),?_⟩;exact (hwb.ownF hfz (k:=T.k) (m:=xs.length) (cap:=cap) (cs:=css.flatten) h1' h2' h3' h4').imp fun _=>Sat.cons_imp (fun h q=>fin h (by simpa using q)) fun _ q=>q
 have n6:¬ (m*T.k=0):=Nat.ne_of_gt (Nat.mul_pos (by omega) hk);have hlen:(css++dss).flatten.length=(xs.length+m)*T.k:=by
  rw [List.flatten_append,List.length_append,hfl,q2,length_reps,Nat.add_mul];simp [hzs]
 by_cases hroom:xs.length+m≤cap
 ·have hzlen:(reps zv.cells.toList m).length=m*T.k:=by rw [length_reps];simp [hzs]
  have hfit:xs.length*T.k+(reps zv.cells.toList m).length≤cur.size:=by rw [hzlen,h3',← Nat.add_mul];exact Nat.mul_le_mul_right _ hroom
  have h1:∀ c∈reps zv.cells.toList m,c.oneCell' =true:=by rw [← q2];exact q1.one
  have hst:=run_storeCells_z P b (xs.length*T.k) e hfz (reps zv.cells.toList m) 0 cur w hwb.block (by omega) (by simpa using hfit) h1;simp only [Nat.add_zero] at hst;have hrun:(Builtin.append_ #[t,t2] o.type #[.slice (some ⟨b,0,none⟩) xs.length cap,.int kj (m:Int)]).run P w =
    .ok (.slice (some ⟨b,0,none⟩) (xs.length+m) cap) (w.setRow b (cur.toList.take (xs.length*T.k)++reps zv.cells.toList m++cur.toList.drop (xs.length*T.k+(reps zv.cells.toList m).length)).toArray):=by
   simp [Builtin.append_,run_underlying ht,run_underlying ht2,sizeOf,typeInfo,zeroValue,hi,hzz,asInt,asIntOf,wl,n1,n2,n6,hm0,hroom,Addr.add_lit,hzr,hsz,hst]
  refine ⟨_,_,_,⟨_,_,rfl,rfl⟩,run_append_args ho (by rw [hkn x _ hx,hkn y _ hy];exact hrun),?_⟩;refine (hwb.setRow.ownF hfz (k:=T.k) (m:=xs.length+m) (cap:=cap) (cs:=(css++dss).flatten) hroom h2' ?_ ?_).imp fun _=>Sat.cons_imp fin fun _ q=>q
  ·simp only [List.size_toArray,List.length_append,List.length_take,List.length_drop,Array.length_toList]
   omega
  ·rw [h4',← hlen,List.flatten_append,q2]
   exact List.take_left
 ·have hrow:=hwb.block
  have holds:∀ j u,css.flatten[j]?=some u→w.cell? ((⟨b,0,none⟩:Addr).add j)=some u:=fun j u hj=>by
   rw [add_lit,Nat.zero_add];have hjl:=(List.getElem?_eq_some_iff.1 hj).1;rw [← h4',List.getElem?_take_of_lt (by omega)] at hj
   simpa [World.cell?,hrow] using hj
  have hfo:=run_firstCells_some (P:=P) w.drew T.k xs.length ⟨b,0,none⟩ xs.length cap css.flatten hfl (by simpa using holds);have hge:=grownCap_ge w (xs.length+m) cap e;have hcm:=grownCap_le_maxLen w (xs.length+m) cap e (by simpa [maxLen] using h63);have n4:¬ (9223372036854775807<((xs.length:Int)+(m:Int))):=by omega
  have n5:¬ (281474976710656<Builtin.nextslicecap (xs.length+m) cap*i.bytes):=by have:=growslice_fits (need:=xs.length+m) (old:=cap) (by omega) hb;omega
  have hrun:(Builtin.append_ #[t,t2] o.type #[.slice (some ⟨b,0,none⟩) xs.length cap,.int kj (m:Int)]).run P w =
    .ok (.slice (some ⟨w.heap.size,0,none⟩) (xs.length+m) (grownCap w (xs.length+m) cap e)) (w.drew.alloc (.cells (css.flatten.toArray++Builtin.zeroCells zv.cells m++Builtin.zeroCells zv.cells (grownCap w (xs.length+m) cap e - (xs.length+m))) e)):=by
   simp [Builtin.append_,run_underlying ht,run_underlying ht2,sizeOf,typeInfo,zeroValue,hi,hzz,asInt,asIntOf,wl,n1,n2,n4,n5,n6,hm0,hroom,Question.forced,hsz,hfo,newRow,grownCap]
  refine ⟨_,_,_,⟨_,_,rfl,rfl⟩,run_append_args ho (by rw [hkn x _ hx,hkn y _ hy];exact hrun),?_⟩;refine (((hwb.drop.drewN _ (Nat.le_add_right _ _)).alloc _).own (k:=T.k) (m:=xs.length+m) (cap:=grownCap w (xs.length+m) cap e) (cs:=(css++dss).flatten) hge (by simpa [maxLen] using hcm) ?_ ?_).imp fun _=>Sat.cons_imp (OwnP.of (css:=css++dss) (ha.append q1) (by simp) rfl rfl) fun _ q=>q
  ·simp only [Array.size_append,List.size_toArray,size_zeroCells,hzs,hfl,← Nat.add_mul]
   congr 1;omega
  ·rw [← hlen,Array.toList_append,Array.toList_append,hzr,List.flatten_append,q2]
   exact List.take_left
end
end Go.Sp
