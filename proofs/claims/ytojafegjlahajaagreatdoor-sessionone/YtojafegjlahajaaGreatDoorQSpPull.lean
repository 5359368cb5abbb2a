/- Texts of this proof, one behind the other. -/
import Derived.Test.YtojafegjlahajaaGreatDoorQSpCmp
set_option linter.unusedSectionVars false
section
/- Texts of this proof. -/
open Go
namespace Go.Sp
theorem S3 {L l:List aH} {i:Nat} (hi:i<l.length):fW L (l.take (i+1))=gF (fW L (l.take i)) l[i]:=by
 rw [List.take_succ_eq_append_getElem hi,fW,List.foldl_append];rfl
end Go.Sp
end
section
/- Texts of this proof. -/
open Go
namespace Go.Sp
theorem GH {K:Type} [DecidableEq K] [BEq K] [LawfulBEq K] (p:K):∀ M:List (b8 K),(gM M p).map (·.1)=(M.map (·.1)).erase p
 |[]=>rfl
 |x::M=>by
  have ih:=GH p M
  show (if x.1=p then M else x::gM M p).map (·.1)=(x.1::M.map (·.1)).erase p
  by_cases h:x.1=p
  ·rw [if_pos h,h,List.erase_cons_head]
  ·rw [if_neg h,List.erase_cons_tail (by simpa using h),List.map_cons,ih]
structure iU (W:List (List UInt8)) (F:List UInt8→List UInt8) where
 k:Fr
 bz:Nat
 mp:Nat
 M:List (b8 (List UInt8))
 c:Nat
 wf:gB M c
 keys:M.map (·.1)=W
 ok:∀ p v,cG M p=some v→aj ag.u8 k v (F p)
section
variable {W:List (List UInt8)} {F:List UInt8→List UInt8} {aN:eV} {T:TypeId} {d:Fr} {aS s:Nat} {L:List aH} {peer:Int} {bM:Bool} {n:Nat} {m:Fr}
abbrev eE (aN:eV) (T:TypeId) (d k:Fr) (aS bz mp s:Nat) (L:List aH) (peer:Int) (bM:Bool) (n:Nat) (M:List (b8 (List UInt8))) (c:Nat):List az :=
 [jt k,obj aS T [.pointer (some ⟨bz,0,none⟩),.map (some mp),.int .i64 (n:Int),.int .i64 peer,.bool bM],bp aN d bz s L,cc encS mp M c]
def bN (aN:eV) (T:TypeId) (d:Fr) (aS s:Nat) (L:List aH) (peer:Int) (bM:Bool) (W:List (List UInt8)) (F:List UInt8→List UInt8) (n:Nat):az:=fun m=>∃ x:iU W F,Sat (eE aN T d x.k aS x.bz x.mp s L peer bM n x.M x.c) m
theorem bN.gy:bN aN T d aS s L peer bM W F n m→∃ x:iU W F,Sat (eE aN T d x.k aS x.bz x.mp s L peer bM n x.M x.c) m:=id
theorem bN.fold (x:iU W F) (h:Sat (eE aN T d x.k aS x.bz x.mp s L peer bM n x.M x.c) m):bN aN T d aS s L peer bM W F n m:=⟨x,h⟩
theorem bN.up (h:Sat [bN aN T d aS s L peer bM W F n] m):bN aN T d aS s L peer bM W F n m:=by
 obtain ⟨m1,_,_,s1,_,⟨y,hy⟩,_⟩:=h;exact ⟨y,Sat.mono s1 hy⟩
theorem iU.has (x:iU W F) {p:List UInt8}:p∈W↔∃ v,cG x.M p=some v:=by
 have hk:=x.keys
 cases e:cG x.M p with
 |none=>exact ⟨fun h=>absurd (hk.symm ▸ h) (y4.1 e),fun ⟨_,h⟩=>by cases h⟩
 |some v=>exact ⟨fun _=>⟨v,rfl⟩,fun _=>by
   obtain ⟨i,hi⟩:=Ch e;exact hk ▸ List.mem_map.2 ⟨_,hi,rfl⟩⟩
theorem iU.none (x:iU W F) {p:List UInt8} (h:p ∉ W):cG x.M p=none:=y4.2 (by rw [x.keys];exact h)
theorem iU.len (x:iU W F):x.M.length=W.length:=(List.length_map (fun y:b8 (List UInt8)=>y.1)).symm.trans (congrArg List.length x.keys)
theorem bN.L9 {F' :List UInt8→List UInt8} (e:∀ p∈W,F p=F' p):bN aN T d aS s L peer bM W F n m→bN aN T d aS s L peer bM W F' n m:=fun ⟨x,h⟩ =>
 ⟨⟨x.k,x.bz,x.mp,x.M,x.c,x.wf,x.keys,fun p v q=>by rw [← e p (x.has.2 ⟨v,q⟩)];exact x.ok p v q⟩,h⟩
theorem bN.put {e:TypeId} {n' :Nat} (x:iU W F) {p xs:List UInt8} {v:Value} (hp:p ∉ W) (hx:xs=F p)
  (h:Sat [jt x.k,av ag.u8 e v xs,obj aS T [.pointer (some ⟨x.bz,0,Option.none⟩),.map (some x.mp),.int .i64 (n' :Int),.int .i64 peer,.bool bM],bp aN d x.bz s L,cc encS x.mp (ir x.M x.c p v) (kI x.M x.c p)] m) :
  bN aN T d aS s L peer bM (W++[p]) F n' m:=by
 subst hx;obtain ⟨n1,r1,d1,s1,s2,o1,n2,m2,d2,t1,t2,o2,hs⟩:=h;have e1:n1=x.k:=o1;have BZ:(n1.add n2).cI m2:=Fr.pJ (fun i=>(d1 i).imp id fun q=>by
  cases c:m2 i with
  |none=>rfl
  |some o=>rw [t2 i o c] at q;cases q) d2
 have d12:n1.cI n2:=fun i=>(d1 i).imp id fun q=>by
  cases c:n2 i with
  |none=>rfl
  |some o=>rw [t1 i o c] at q;cases q
 have sm:(n1.add n2).sub m:=Fr.hG s1 (Fr.aI t1 s2);have hk:x.k.sub (n1.add n2):=e1 ▸ Fr.cw n1 n2;have hn:=x.none hp;have uM:ir x.M x.c p v=x.M++[(p,v,x.c)]:=by unfold ir;rw [hn];rfl
 refine ⟨⟨n1.add n2,x.bz,x.mp,ir x.M x.c p v,kI x.M x.c p,Ag x.wf p v,by rw [uM,List.map_append,x.keys];rfl,fun j u q=>?_⟩,n1.add n2,m2,BZ,sm,Fr.aI t2 s2,rfl,hs⟩;rw [G8] at q
 split at q
 ·rename_i w;subst w;cases q;exact o2.arr.mono (Fr.dA d12)
 ·exact (x.ok j u q).mono hk
theorem bN.del {n' :Nat} {F6 :Bool} (x:iU W F) {p:List UInt8}
  (h:Sat (eE aN T d x.k aS x.bz x.mp s L peer F6 n' (gM x.M p) x.c) m):bN aN T d aS s L peer F6 (W.erase p) F n' m :=
 ⟨⟨x.k,x.bz,x.mp,gM x.M p,x.c,BW x.wf p,by rw [GH,x.keys],fun j v q=>by
  rw [Cg x.wf.2.2] at q
  split at q
  ·cases q
  ·exact x.ok j v q⟩,h⟩
end
noncomputable def tV (L:List aH) (p:List UInt8):List UInt8:=if kD p then bA L p else []
noncomputable def dh (L:List aH) (F:List UInt8→List UInt8) (ps:List (List UInt8)):List (List UInt8):=ps.filter fun p=>!decide (tV L p=F p)
theorem Lm {L:List aH} {F:List UInt8→List UInt8} {ps:List (List UInt8)} {i:Nat} (h:i<ps.length) (e:tV L ps[i]≠F ps[i]):dh L F (ps.take (i+1))=dh L F (ps.take i)++[ps[i]]:=by
 unfold dh;rw [List.take_succ_eq_append_getElem h,List.filter_append];simp [e]
theorem Ll {L:List aH} {F:List UInt8→List UInt8} {ps:List (List UInt8)} {i:Nat} (h:i<ps.length) (e:tV L ps[i]=F ps[i]):dh L F (ps.take (i+1))=dh L F (ps.take i):=by
 unfold dh;rw [List.take_succ_eq_append_getElem h,List.filter_append];simp [e]
theorem FR (L:List aH) (F:List UInt8→List UInt8) (ps:List (List UInt8)):(dh L F ps).length≤ps.length:=List.length_filter_le _ _
theorem FT {L:List aH} {F:List UInt8→List UInt8} {ps:List (List UInt8)} {p:List UInt8}:p∈dh L F ps↔p∈ps∧tV L p≠F p:=by
 unfold dh;rw [List.mem_filter];simp
end Go.Sp
end
