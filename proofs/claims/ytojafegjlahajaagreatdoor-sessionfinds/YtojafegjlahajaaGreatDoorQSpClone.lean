/- Texts of this proof. -/
import Derived.Test.YtojafegjlahajaaGreatDoorQSpOpen
import Derived.Lib.UnsafeStr
import Derived.Lib.BufferWrite
set_option linter.unusedSectionVars false
open Go
namespace Go.Sp
variable {P:Program} {σ:List (Nat × Value)} {g:bn} {U ζ:List az} {t t2 e:TypeId} {x y:Operand}
theorem LY:∀ {ak:List (List Value)} {xs:List UInt8},b5 (ag.u8.rel Fr.emp) ak xs→ak.flatten=xs.map bK
 |[],[],_=>rfl
 |c::ak,b::xs,⟨h,r⟩=>by
  have h:c=[bK b]:=h;subst h
  simp [LY r]
theorem X4 (xs:List UInt8):b5 (ag.u8.rel Fr.emp) (xs.map fun b=>[bK b]) xs:=by
 induction xs with
 |nil=>trivial
 |cons b xs ih=>exact ⟨rfl,ih⟩
theorem LX:∀ xs:List UInt8,(xs.map fun b=>[bK b]).flatten=xs.map bK
 |[]=>rfl
 |b::xs=>by simp [LX xs]
theorem bF.NH {a:Option Addr} {n c:Nat} {xs s:List UInt8} (ht:P.underlying t=some (.slice e)) (he:(P.info? e).map (·.size)=some 1) (hx:aA σ x=some (.slice a n c)) (hy:aA σ y=some (.string (str s)))
  (hs:bg U (av ag.u8 e (.slice a n c) xs) ζ) (hn:n=s.length) (hxl:xs.length=n) (h0:0<n) :
  bF P (.call ⟨.builtin .copy,#[x,y],#[t,t2]⟩) σ g U fun v ax =>v=.int .i64 (n:Int)∧ax =av ag.u8 e (.slice a n c) s::ζ :=
 fun o ρ w ho hk hw=>by
  obtain ⟨b,cap,cur,ak,hv,h1,h2,h3,h4,ha,fz,hfz,jN⟩:=(hw.cB hs).oD (by omega)
  cases hv
  have hsz:(str s).size=s.length:=sI s;have ot:ag.u8.k=1:=rfl;rw [ot] at h3 h4 hfz;have hone:∀ v∈s.map bK,v.oneCell' =true:=fun v hv=>by obtain ⟨_,_,rfl⟩:=List.mem_map.1 hv;rfl
  have hst:=sE P b 0 e hfz (s.map bK) 0 cur w jN.block (by omega) (by simp;omega) hone;simp only [Nat.add_zero,Nat.zero_add,List.take_zero,List.nil_append,List.length_map] at hst;have htk:List.take s.length (List.map (fun b:UInt8=>Value.int IntKind.u8 (b.toNat:Int)) (str s).data.toList)=s.map bK:=by
   rw [List.take_of_length_le (by simp [str])];rfl
  refine ⟨_,w.setRow b (s.map bK++cur.toList.drop s.length).toArray,_,⟨rfl,rfl⟩,?_,?_⟩
  ·have hmin:Nat.min s.length xs.length=s.length:=by rw [hxl,hn];exact Nat.min_self _
   simp [execOp,ho,hk x _ hx,hk y _ hy,resolve,invoke,builtin,Builtin.copy_,run_underlying ht,Builtin.lenOf,Builtin.firstCells,run_sizeOf he,hsz,hmin,htk,hst,goInt]
   omega
  ·have hl:xs.length=s.length:=by omega
   refine (jN.setRow.uo hfz (k:=1) (m:=s.length) (cap:=c) (cs:=s.map bK) (by omega) h2 ?_ ?_).imp fun _=>Sat.fk (fun z=>?_) fun _ q=>q
   ·simp;omega
   ·simp
   ·rw [hl];exact av.of (T:=ag.u8) (X4 s) rfl (LX s).symm rfl z
theorem bF.Bp {pt:TypeId} {a:Option Addr} {q:Addr} {n c:Nat} {xs:List UInt8} (hp:P.underlying pt=some (.pointer e)) (hc:P.cellsOf e=1) (hx:aA σ x=some (.pointer (some q))) (hq:pZ (.slice a n c) 1 0 q) (hy:aA σ y=some (.int .i64 (n:Int)))
  (hs:bg U (av ag.u8 e (.slice a n c) xs) ζ) (hn:n=xs.length) (h0:0<n) :
  bF P (.call ⟨.builtin .unsafeString,#[x,y],#[pt,t2]⟩) σ g U fun v ax =>v=.string (str xs)∧ax =ζ :=
 fun o ρ w ho hk hw=>by
  obtain ⟨b,cap,cur,ak,hv,h1,h2,h3,h4,ha,fz,hfz,jN⟩:=(hw.cB hs).oD (by omega);obtain ⟨b',m',c',eu,rfl⟩:=hq
  cases hv;cases eu
  have ot:ag.u8.k=1:=rfl;rw [ot] at h3 h4 hfz;have hfl:=LY ha;have hb0:=jN.block;have hne:xs≠[]:=fun h=>by rw [h] at h0;simp at h0
  have OY:=Lib.run_unsafeString_row (P:=P) w pt t2 o.type e hp hc b cur.size (by unfold World.shape?;rw [hb0]) xs hne (by omega) (by omega) (fun j x hx=>by
   have hj:j<xs.length:=(List.getElem?_eq_some_iff.1 hx).1;have e1:(⟨b,0,none⟩:Addr).add j=⟨b,j,none⟩:=by unfold Addr.add;split<;>simp_all
   have e2:cur.toList[j]?=some (bK x):=by
    have:(cur.toList.take (xs.length*1))[j]?=some (bK x):=by rw [h4,hfl,List.getElem?_map,hx];rfl
    rwa [List.getElem?_take_of_lt (by omega)] at this
   rw [e1];simp only [World.cell?,hb0]
   simpa [bK] using e2)
  refine ⟨_,w.freeze ⟨b,0,none⟩ xs.length,_,⟨rfl,rfl⟩,?_,?_⟩
  ·have hz:(⟨b,0*1,none⟩:Addr)=⟨b,0,none⟩:=by simp
   simp [execOp,ho,hk x _ hx,hk y _ hy,resolve,invoke,builtin,OY,str]
  ·have hfr:∀ u:World,u=w.freeze ⟨b,0,none⟩ xs.length→u.os=w.os∧u.tape=w.tape∧u.output=w.output∧u.drawn=w.drawn∧(∃ o',u.heap[b]?=some o')∧∀ i,i≠b→u.heap[i]?=w.heap[i]?:=by
    rintro _ rfl;unfold World.freeze;rw [if_neg (by omega)];refine ⟨rfl,rfl,rfl,rfl,?_,fun i hi=>?_⟩
    ·simp [Array.getElem?_modify,hb0]
    ·have:b≠i:=fun h=>hi h.symm
     simp [Array.getElem?_modify,this]
   obtain ⟨f1,f2,f3,f4,⟨o',f5⟩,f6⟩:=hfr _ rfl;exact Holds.drop (Holds.setBlock jN f5 f6 f1 f2 f3 (by rw [f4];exact Nat.le_refl _))
end Go.Sp
