/- Texts of this proof, one behind the other. -/
import Derived.Test.YtojafegjlahajaaGreatDoorQSpCmp
set_option linter.unusedSectionVars false
section
/- Texts of this proof. -/
open Go
namespace Go.Sp
theorem U7 {L l:List aD} {i:Nat} (hi:i<l.length):fN L (l.take (i+1))=gK (fN L (l.take i)) l[i]:=by
 rw [List.take_succ_eq_append_getElem hi,fN,List.foldl_append];rfl
end Go.Sp
end
section
/- Texts of this proof. -/
open Go
namespace Go.Sp
theorem HO {K:Type} [DecidableEq K] [BEq K] [LawfulBEq K] (p:K):∀ M:List (cr K),(gQ M p).map (·.1)=(M.map (·.1)).erase p
 |[]=>rfl
 |x::M=>by
  have ih:=HO p M
  show (if x.1=p then M else x::gQ M p).map (·.1)=(x.1::M.map (·.1)).erase p
  by_cases h:x.1=p
  ·rw [if_pos h,h,List.erase_cons_head]
  ·rw [if_neg h,List.erase_cons_tail (by simpa using h),List.map_cons,ih]
structure kp (W:List (List UInt8)) (F:List UInt8→List UInt8) where
 k:Fr
 bI:Nat
 mp:Nat
 M:List (cr (List UInt8))
 c:Nat
 wf:gE M c
 keys:M.map (·.1)=W
 ok:∀ p v,cL M p=some v→aj ag.u8 k v (F p)
section
variable {W:List (List UInt8)} {F:List UInt8→List UInt8} {aO:e3} {T:TypeId} {d:Fr} {aZ s:Nat} {L:List aD} {peer:Int} {cg:Bool} {n:Nat} {m:Fr}
abbrev iC (aO:e3) (T:TypeId) (d k:Fr) (aZ bI mp s:Nat) (L:List aD) (peer:Int) (cg:Bool) (n:Nat) (M:List (cr (List UInt8))) (c:Nat):List az :=
 [jq k,obj aZ T [.pointer (some ⟨bI,0,none⟩),.map (some mp),.int .i64 (n:Int),.int .i64 peer,.bool cg],aY aO d bI s L,cu encS mp M c]
def cc (aO:e3) (T:TypeId) (d:Fr) (aZ s:Nat) (L:List aD) (peer:Int) (cg:Bool) (W:List (List UInt8)) (F:List UInt8→List UInt8) (n:Nat):az:=fun m=>∃ x:kp W F,Sat (iC aO T d x.k aZ x.bI x.mp s L peer cg n x.M x.c) m
theorem cc.jc:cc aO T d aZ s L peer cg W F n m→∃ x:kp W F,Sat (iC aO T d x.k aZ x.bI x.mp s L peer cg n x.M x.c) m:=id
theorem cc.fold (x:kp W F) (h:Sat (iC aO T d x.k aZ x.bI x.mp s L peer cg n x.M x.c) m):cc aO T d aZ s L peer cg W F n m:=⟨x,h⟩
theorem cc.up (h:Sat [cc aO T d aZ s L peer cg W F n] m):cc aO T d aZ s L peer cg W F n m:=by
 obtain ⟨m1,_,_,s1,_,⟨y,hy⟩,_⟩:=h;exact ⟨y,Sat.mono s1 hy⟩
theorem kp.has (x:kp W F) {p:List UInt8}:p∈W↔∃ v,cL x.M p=some v:=by
 have hk:=x.keys
 cases e:cL x.M p with
 |none=>exact ⟨fun h=>absurd (hk.symm ▸ h) (zJ.1 e),fun ⟨_,h⟩=>by cases h⟩
 |some v=>exact ⟨fun _=>⟨v,rfl⟩,fun _=>by
   obtain ⟨i,hi⟩:=C3 e;exact hk ▸ List.mem_map.2 ⟨_,hi,rfl⟩⟩
theorem kp.none (x:kp W F) {p:List UInt8} (h:p ∉ W):cL x.M p=none:=zJ.2 (by rw [x.keys];exact h)
theorem kp.len (x:kp W F):x.M.length=W.length:=(List.length_map (fun y:cr (List UInt8)=>y.1)).symm.trans (congrArg List.length x.keys)
theorem cc.Np {F' :List UInt8→List UInt8} (e:∀ p∈W,F p=F' p):cc aO T d aZ s L peer cg W F n m→cc aO T d aZ s L peer cg W F' n m:=fun ⟨x,h⟩ =>
 ⟨⟨x.k,x.bI,x.mp,x.M,x.c,x.wf,x.keys,fun p v q=>by rw [← e p (x.has.2 ⟨v,q⟩)];exact x.ok p v q⟩,h⟩
theorem cc.put {e:TypeId} {n' :Nat} (x:kp W F) {p xs:List UInt8} {v:Value} (hp:p ∉ W) (hx:xs=F p)
  (h:Sat [jq x.k,av ag.u8 e v xs,obj aZ T [.pointer (some ⟨x.bI,0,Option.none⟩),.map (some x.mp),.int .i64 (n' :Int),.int .i64 peer,.bool cg],aY aO d x.bI s L,cu encS x.mp (iD x.M x.c p v) (kR x.M x.c p)] m) :
  cc aO T d aZ s L peer cg (W++[p]) F n' m:=by
 subst hx;obtain ⟨n1,r1,d1,s1,s2,o1,n2,m2,d2,t1,t2,o2,hs⟩:=h;have e1:n1=x.k:=o1;have CI:(n1.add n2).cU m2:=Fr.p4 (fun i=>(d1 i).imp id fun q=>by
  cases c:m2 i with
  |none=>rfl
  |some o=>rw [t2 i o c] at q;cases q) d2
 have d12:n1.cU n2:=fun i=>(d1 i).imp id fun q=>by
  cases c:n2 i with
  |none=>rfl
  |some o=>rw [t1 i o c] at q;cases q
 have sm:(n1.add n2).sub m:=Fr.ia s1 (Fr.aI t1 s2);have hk:x.k.sub (n1.add n2):=e1 ▸ Fr.dh n1 n2;have hn:=x.none hp;have vp:iD x.M x.c p v=x.M++[(p,v,x.c)]:=by unfold iD;rw [hn];rfl
 refine ⟨⟨n1.add n2,x.bI,x.mp,iD x.M x.c p v,kR x.M x.c p,AX x.wf p v,by rw [vp,List.map_append,x.keys];rfl,fun j u q=>?_⟩,n1.add n2,m2,CI,sm,Fr.aI t2 s2,rfl,hs⟩;rw [Iq] at q
 split at q
 ·rename_i w;subst w;cases q;exact o2.arr.mono (Fr.dB d12)
 ·exact (x.ok j u q).mono hk
theorem cc.del {n' :Nat} {He :Bool} (x:kp W F) {p:List UInt8}
  (h:Sat (iC aO T d x.k aZ x.bI x.mp s L peer He n' (gQ x.M p) x.c) m):cc aO T d aZ s L peer He (W.erase p) F n' m :=
 ⟨⟨x.k,x.bI,x.mp,gQ x.M p,x.c,CF x.wf p,by rw [HO,x.keys],fun j v q=>by
  rw [C2 x.wf.2.2] at q
  split at q
  ·cases q
  ·exact x.ok j v q⟩,h⟩
end
noncomputable def ry (L:List aD) (p:List UInt8):List UInt8:=if gJ p then bw L p else []
noncomputable def c7 (L:List aD) (F:List UInt8→List UInt8) (ps:List (List UInt8)):List (List UInt8):=ps.filter fun p=>!decide (ry L p=F p)
theorem MG {L:List aD} {F:List UInt8→List UInt8} {ps:List (List UInt8)} {i:Nat} (h:i<ps.length) (e:ry L ps[i]≠F ps[i]):c7 L F (ps.take (i+1))=c7 L F (ps.take i)++[ps[i]]:=by
 unfold c7;rw [List.take_succ_eq_append_getElem h,List.filter_append];simp [e]
theorem MF {L:List aD} {F:List UInt8→List UInt8} {ps:List (List UInt8)} {i:Nat} (h:i<ps.length) (e:ry L ps[i]=F ps[i]):c7 L F (ps.take (i+1))=c7 L F (ps.take i):=by
 unfold c7;rw [List.take_succ_eq_append_getElem h,List.filter_append];simp [e]
theorem GZ (L:List aD) (F:List UInt8→List UInt8) (ps:List (List UInt8)):(c7 L F ps).length≤ps.length:=List.length_filter_le _ _
theorem uZ {L:List aD} {F:List UInt8→List UInt8} {ps:List (List UInt8)} {p:List UInt8}:p∈c7 L F ps↔p∈ps∧ry L p≠F p:=by
 unfold c7;rw [List.mem_filter];simp
end Go.Sp
end
