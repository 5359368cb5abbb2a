/- Texts of this proof. -/
import Derived.Test.YtdjoggpacmpfnaaGreatDoorQSpLent
namespace Go.Sp
section
variable {P:Program} {σ:List (Nat × Value)} {g:bp} {aa ζ cL:List az} {t e:TypeId} {x y:Operand} {α:Type} {T:ag α}
theorem dj.Q6 {dx:Nat} {z:List Value} {a:α} {m:Nat} {t2:TypeId} {Ik wD:IntKind} {v:Value} {xs:List α} (ht:P.underlying t=some (.slice e)) (lJ:P.underlying t2=some (.int Ik)) (he:cu P e T.k dx z) (hk:0<T.k) (hz:T.rel Fr.emp z a)
  (hx:aE σ x=some v) {de:Int} (hy:aE σ y=some (.int wD de)) (eN:de=(m:Int)) (hs:bA aa (ak T e v xs) ζ) (hne:0<xs.length) (hb:(xs.length+m)*dx≤140737488355328) (h63:xs.length+m≤9223372036854775807) :
  dj P (.call ⟨.builtin .append,#[x,y],#[t,t2]⟩) σ g aa fun v' au =>∃ a' c,v' =.slice a' (xs.length+m) c∧au =ak T e v' (xs++List.replicate m a)::ζ:=by
 subst eN
 intro o ρ w ho hkn hw
 obtain ⟨b,cap,cur,aG,rfl,zW,s_,tc,rQ,ha,fz,hfz,lK⟩:=(hw.eJ hs).Dt hne;obtain ⟨i,ej,hi,C',hsz,hby,mS,hzl⟩:=he;subst hby mS;have hzs:ej.cells.size=T.k:=by simpa using hzl
 have wl:IntKind.i64.wrap (m:Int)=m:=by rw [IntKind.wrap_i64];omega
 have n1:¬ ((m:Int)<0):=by omega
 have hmb:m*i.bytes≤140737488355328:=Nat.le_trans (Nat.mul_le_mul_right _ (by omega)) hb;have n2:¬ (281474976710656<(m:Int)*(i.bytes:Int)):=by
  have:((m*i.bytes:Nat):Int)≤140737488355328:=by omega
  rw [Int.natCast_mul] at this;omega
 obtain ⟨cl,q1,bg⟩:=DK hz m;have C_:∀ q,(Builtin.zeroCells ej.cells q).toList=lY ej.cells.toList q:=fun q=>by
  have:=IJ ej.cells q (by omega);rw [← this];rfl
 have nx:aG.length=xs.length:=ha.length;have hfl:aG.flatten.length=xs.length*T.k:=by
  have hcs:cur.toList.length=cap*T.k:=by rw [Array.length_toList];exact tc
  rw [← rQ,List.length_take,hcs,Nat.min_eq_left (Nat.mul_le_mul_right _ zW)]
 have fin:∀ h,Own (.slice (some ⟨b,0,none⟩) (xs.length+m) cap) T.k e (xs.length+m) (aG++cl).flatten h→ak T e (.slice (some ⟨b,0,none⟩) (xs.length+m) cap) (xs++List.replicate m a) h :=
  ak.of (aG:=aG++cl) (ha.append q1) (by simp) rfl rfl
 by_cases hm0:m=0
 ·subst hm0
  have hds:cl=[]:=by have:=q1.length;simpa using this
  subst hds;have hrun:(Builtin.append_ #[t,t2] o.type #[.slice (some ⟨b,0,none⟩) xs.length cap,.int wD ((0:Nat):Int)]).run P w=.ok (.slice (some ⟨b,0,none⟩) xs.length cap) w:=by
   have adR:IntKind.i64.wrap 0=0:=by rw [IntKind.wrap_i64];rfl
   simp [Builtin.append_,run_underlying ht,run_underlying lJ,sizeOf,typeInfo,hi,asInt,asIntOf,storeCells,zW,adR]
  refine ⟨_,w,_,⟨_,_,rfl,rfl⟩,oA ho (by rw [hkn x _ hx,hkn y _ hy];exact hrun),?_⟩;exact (lK.wO hfz (k:=T.k) (m:=xs.length) (cap:=cap) (cs:=aG.flatten) zW s_ tc rQ).imp fun _=>Sat.g9 (fun h q=>fin h (by simpa using q)) fun _ q=>q
 have qW:¬ (m*T.k=0):=Nat.ne_of_gt (Nat.mul_pos (by omega) hk);have hlen:(aG++cl).flatten.length=(xs.length+m)*T.k:=by
  rw [List.flatten_append,List.length_append,hfl,bg,yp,Nat.add_mul];simp [hzs]
 by_cases hroom:xs.length+m≤cap
 ·have WV:(lY ej.cells.toList m).length=m*T.k:=by rw [yp];simp [hzs]
  have hfit:xs.length*T.k+(lY ej.cells.toList m).length≤cur.size:=by rw [WV,tc,← Nat.add_mul];exact Nat.mul_le_mul_right _ hroom
  have h1:∀ c∈lY ej.cells.toList m,c.oneCell' =true:=by rw [← bg];exact q1.one
  have hst:=DQ P b (xs.length*T.k) e hfz (lY ej.cells.toList m) 0 cur w lK.block (by omega) (by simpa using hfit) h1;simp only [Nat.add_zero] at hst;have hrun:(Builtin.append_ #[t,t2] o.type #[.slice (some ⟨b,0,none⟩) xs.length cap,.int wD (m:Int)]).run P w =
    .ok (.slice (some ⟨b,0,none⟩) (xs.length+m) cap) (w.setRow b (cur.toList.take (xs.length*T.k)++lY ej.cells.toList m++cur.toList.drop (xs.length*T.k+(lY ej.cells.toList m).length)).toArray):=by
   simp [Builtin.append_,run_underlying ht,run_underlying lJ,sizeOf,typeInfo,zeroValue,hi,C',asInt,asIntOf,wl,n1,n2,qW,hm0,hroom,Addr.add_lit,C_,hsz,hst]
  refine ⟨_,_,_,⟨_,_,rfl,rfl⟩,oA ho (by rw [hkn x _ hx,hkn y _ hy];exact hrun),?_⟩;refine (lK.setRow.wO hfz (k:=T.k) (m:=xs.length+m) (cap:=cap) (cs:=(aG++cl).flatten) hroom s_ ?_ ?_).imp fun _=>Sat.g9 fin fun _ q=>q
  ·simp only [List.size_toArray,List.length_append,List.length_take,List.length_drop,Array.length_toList]
   omega
  ·rw [rQ,← hlen,List.flatten_append,bg]
   exact List.take_left
 ·have hrow:=lK.block
  have holds:∀ j u,aG.flatten[j]?=some u→w.cell? ((⟨b,0,none⟩:Addr).add j)=some u:=fun j u hj=>by
   rw [add_lit,Nat.zero_add];have hjl:=(List.getElem?_eq_some_iff.1 hj).1;rw [← rQ,List.getElem?_take_of_lt (by omega)] at hj
   simpa [World.cell?,hrow] using hj
  have hfo:=run_firstCells_some (P:=P) w.drew T.k xs.length ⟨b,0,none⟩ xs.length cap aG.flatten hfl (by simpa using holds);have hge:=grownCap_ge w (xs.length+m) cap e;have j4:=grownCap_le_maxLen w (xs.length+m) cap e (by simpa [maxLen] using h63);have fy:¬ (9223372036854775807<((xs.length:Int)+(m:Int))):=by omega
  have o9:¬ (281474976710656<Builtin.nextslicecap (xs.length+m) cap*i.bytes):=by have:=growslice_fits (need:=xs.length+m) (old:=cap) (by omega) hb;omega
  have hrun:(Builtin.append_ #[t,t2] o.type #[.slice (some ⟨b,0,none⟩) xs.length cap,.int wD (m:Int)]).run P w =
    .ok (.slice (some ⟨w.heap.size,0,none⟩) (xs.length+m) (grownCap w (xs.length+m) cap e)) (w.drew.alloc (.cells (aG.flatten.toArray++Builtin.zeroCells ej.cells m++Builtin.zeroCells ej.cells (grownCap w (xs.length+m) cap e - (xs.length+m))) e)):=by
   simp [Builtin.append_,run_underlying ht,run_underlying lJ,sizeOf,typeInfo,zeroValue,hi,C',asInt,asIntOf,wl,n1,n2,fy,o9,qW,hm0,hroom,Question.forced,hsz,hfo,newRow,grownCap]
  refine ⟨_,_,_,⟨_,_,rfl,rfl⟩,oA ho (by rw [hkn x _ hx,hkn y _ hy];exact hrun),?_⟩;refine (((lK.drop.drewN _ (Nat.le_add_right _ _)).alloc _).own (k:=T.k) (m:=xs.length+m) (cap:=grownCap w (xs.length+m) cap e) (cs:=(aG++cl).flatten) hge (by simpa [maxLen] using j4) ?_ ?_).imp fun _=>Sat.g9 (ak.of (aG:=aG++cl) (ha.append q1) (by simp) rfl rfl) fun _ q=>q
  ·simp only [Array.size_append,List.size_toArray,size_zeroCells,hzs,hfl,← Nat.add_mul]
   congr 1;omega
  ·rw [← hlen,Array.toList_append,Array.toList_append,C_,List.flatten_append,bg]
   exact List.take_left
end
end Go.Sp
