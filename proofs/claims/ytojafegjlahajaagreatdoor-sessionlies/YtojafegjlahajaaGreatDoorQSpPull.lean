/- Texts of this proof, one behind the other. -/
import Derived.Test.YtojafegjlahajaaGreatDoorQSpCmp
set_option linter.unusedSectionVars false
section
/- Texts of this proof. -/
open Go
namespace Go.Sp
theorem Ur {L l:List aG} {i:Nat} (hi:i<l.length):fQ L (l.take (i+1))=gQ (fQ L (l.take i)) l[i]:=by
 rw [List.take_succ_eq_append_getElem hi,fQ,List.foldl_append];rfl
end Go.Sp
end
section
/- Texts of this proof. -/
open Go
namespace Go.Sp
theorem Hq {K:Type} [DecidableEq K] [BEq K] [LawfulBEq K] (p:K):∀ M:List (cg K),(gX M p).map (·.1)=(M.map (·.1)).erase p
 |[]=>rfl
 |x::M=>by
  have ih:=Hq p M
  show (if x.1=p then M else x::gX M p).map (·.1)=(x.1::M.map (·.1)).erase p
  by_cases h:x.1=p
  ·rw [if_pos h,h,List.erase_cons_head]
  ·rw [if_neg h,List.erase_cons_tail (by simpa using h),List.map_cons,ih]
structure lQ (W:List (List UInt8)) (F:List UInt8→List UInt8) where
 k:Fr
 bH:Nat
 mp:Nat
 M:List (cg (List UInt8))
 c:Nat
 wf:gL M c
 keys:M.map (·.1)=W
 ok:∀ p v,cE M p=some v→aj ag.u8 k v (F p)
section
variable {W:List (List UInt8)} {F:List UInt8→List UInt8} {aO:eX} {T:TypeId} {d:Fr} {bh s:Nat} {L:List aG} {peer:Int} {cm:Bool} {n:Nat} {m:Fr}
abbrev jV (aO:eX) (T:TypeId) (d k:Fr) (bh bH mp s:Nat) (L:List aG) (peer:Int) (cm:Bool) (n:Nat) (M:List (cg (List UInt8))) (c:Nat):List az :=
 [jK k,obj bh T [.pointer (some ⟨bH,0,none⟩),.map (some mp),.int .i64 (n:Int),.int .i64 peer,.bool cm],bl aO d bH s L,ck encS mp M c]
def cN (aO:eX) (T:TypeId) (d:Fr) (bh s:Nat) (L:List aG) (peer:Int) (cm:Bool) (W:List (List UInt8)) (F:List UInt8→List UInt8) (n:Nat):az:=fun m=>∃ x:lQ W F,Sat (jV aO T d x.k bh x.bH x.mp s L peer cm n x.M x.c) m
theorem cN.jq:cN aO T d bh s L peer cm W F n m→∃ x:lQ W F,Sat (jV aO T d x.k bh x.bH x.mp s L peer cm n x.M x.c) m:=id
theorem cN.fold (x:lQ W F) (h:Sat (jV aO T d x.k bh x.bH x.mp s L peer cm n x.M x.c) m):cN aO T d bh s L peer cm W F n m:=⟨x,h⟩
theorem cN.up (h:Sat [cN aO T d bh s L peer cm W F n] m):cN aO T d bh s L peer cm W F n m:=by
 obtain ⟨m1,_,_,s1,_,⟨y,hy⟩,_⟩:=h;exact ⟨y,Sat.mono s1 hy⟩
theorem lQ.has (x:lQ W F) {p:List UInt8}:p∈W↔∃ v,cE x.M p=some v:=by
 have hk:=x.keys
 cases e:cE x.M p with
 |none=>exact ⟨fun h=>absurd (hk.symm ▸ h) (zA.1 e),fun ⟨_,h⟩=>by cases h⟩
 |some v=>exact ⟨fun _=>⟨v,rfl⟩,fun _=>by
   obtain ⟨i,hi⟩:=CK e;exact hk ▸ List.mem_map.2 ⟨_,hi,rfl⟩⟩
theorem lQ.none (x:lQ W F) {p:List UInt8} (h:p ∉ W):cE x.M p=none:=zA.2 (by rw [x.keys];exact h)
theorem cN.M1 {F' :List UInt8→List UInt8} (e:∀ p∈W,F p=F' p):cN aO T d bh s L peer cm W F n m→cN aO T d bh s L peer cm W F' n m:=fun ⟨x,h⟩ =>
 ⟨⟨x.k,x.bH,x.mp,x.M,x.c,x.wf,x.keys,fun p v q=>by rw [← e p (x.has.2 ⟨v,q⟩)];exact x.ok p v q⟩,h⟩
theorem cN.put {e:TypeId} {n' :Nat} (x:lQ W F) {p xs:List UInt8} {v:Value} (hp:p ∉ W) (hx:xs=F p)
  (h:Sat [jK x.k,av ag.u8 e v xs,obj bh T [.pointer (some ⟨x.bH,0,Option.none⟩),.map (some x.mp),.int .i64 (n' :Int),.int .i64 peer,.bool cm],bl aO d x.bH s L,ck encS x.mp (iI x.M x.c p v) (kT x.M x.c p)] m) :
  cN aO T d bh s L peer cm (W++[p]) F n' m:=by
 subst hx;obtain ⟨n1,r1,d1,s1,s2,o1,n2,m2,d2,t1,t2,o2,hs⟩:=h;have e1:n1=x.k:=o1;have Cp:(n1.add n2).cR m2:=Fr.p4 (fun i=>(d1 i).imp id fun q=>by
  cases c:m2 i with
  |none=>rfl
  |some o=>rw [t2 i o c] at q;cases q) d2
 have d12:n1.cR n2:=fun i=>(d1 i).imp id fun q=>by
  cases c:n2 i with
  |none=>rfl
  |some o=>rw [t1 i o c] at q;cases q
 have sm:(n1.add n2).sub m:=Fr.iw s1 (Fr.aH t1 s2);have hk:x.k.sub (n1.add n2):=e1 ▸ Fr.de n1 n2;have hn:=x.none hp;have vn:iI x.M x.c p v=x.M++[(p,v,x.c)]:=by unfold iI;rw [hn];rfl
 refine ⟨⟨n1.add n2,x.bH,x.mp,iI x.M x.c p v,kT x.M x.c p,AN x.wf p v,by rw [vn,List.map_append,x.keys];rfl,fun j u q=>?_⟩,n1.add n2,m2,Cp,sm,Fr.aH t2 s2,rfl,hs⟩;rw [HR] at q
 split at q
 ·rename_i w;subst w;cases q;exact o2.arr.mono (Fr.dL d12)
 ·exact (x.ok j u q).mono hk
theorem cN.del {n' :Nat} {GM :Bool} (x:lQ W F) {p:List UInt8}
  (h:Sat (jV aO T d x.k bh x.bH x.mp s L peer GM n' (gX x.M p) x.c) m):cN aO T d bh s L peer GM (W.erase p) F n' m :=
 ⟨⟨x.k,x.bH,x.mp,gX x.M p,x.c,Cm x.wf p,by rw [Hq,x.keys],fun j v q=>by
  rw [CJ x.wf.2.2] at q
  split at q
  ·cases q
  ·exact x.ok j v q⟩,h⟩
end
noncomputable def uv (L:List aG) (p:List UInt8):List UInt8:=if js p then bZ L p else []
noncomputable def dh (L:List aG) (F:List UInt8→List UInt8) (ps:List (List UInt8)):List (List UInt8):=ps.filter fun p=>!decide (uv L p=F p)
theorem Me {L:List aG} {F:List UInt8→List UInt8} {ps:List (List UInt8)} {i:Nat} (h:i<ps.length) (e:uv L ps[i]≠F ps[i]):dh L F (ps.take (i+1))=dh L F (ps.take i)++[ps[i]]:=by
 unfold dh;rw [List.take_succ_eq_append_getElem h,List.filter_append];simp [e]
theorem Md {L:List aG} {F:List UInt8→List UInt8} {ps:List (List UInt8)} {i:Nat} (h:i<ps.length) (e:uv L ps[i]=F ps[i]):dh L F (ps.take (i+1))=dh L F (ps.take i):=by
 unfold dh;rw [List.take_succ_eq_append_getElem h,List.filter_append];simp [e]
theorem GA (L:List aG) (F:List UInt8→List UInt8) (ps:List (List UInt8)):(dh L F ps).length≤ps.length:=List.length_filter_le _ _
theorem GB {L:List aG} {F:List UInt8→List UInt8} {ps:List (List UInt8)} {p:List UInt8}:p∈dh L F ps↔p∈ps∧uv L p≠F p:=by
 unfold dh;rw [List.mem_filter];simp
end Go.Sp
end
