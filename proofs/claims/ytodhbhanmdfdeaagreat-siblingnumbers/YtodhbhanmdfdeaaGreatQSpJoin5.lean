/- Texts of this proof. -/
import Derived.Test.YtodhbhanmdfdeaaGreatQSpJoin3
namespace Go.Sp
def Rp.on {α:Type} (r:Fr) (T:Rp α):Rp α:={ k:=T.k,rel:=fun _ cs a=>T.rel r cs a,len:=fun h=>T.len h,mono:=fun _ h=>h,one:=fun h=>T.one h }
theorem pure_on {α:Type} (r:Fr) (T:Rp α):(Rp.on r T).Pure:=fun _ _ _ h=>h
theorem Arr.on {α:Type} {T:Rp α} {r h:Fr} {v:Value} {xs:List α}:Arr T r v xs→r.sub h→Arr (Rp.on r T) h v xs:=fun ⟨css,a,b⟩ s=>⟨css,a,b.mono s⟩
theorem Arr.off {α:Type} {T:Rp α} {r h:Fr} {v:Value} {xs:List α} (s:r.sub h):Arr (Rp.on r T) h v xs→Arr T h v xs:=fun ⟨css,a,b⟩=>⟨css,a.imp fun _ _=>T.mono s,b⟩
theorem ins_erase {α:Type} (a:α):∀ (j:Nat) (l:List α),j≤l.length→(l.take j++[a]++l.drop j).eraseIdx j=l
 |0,_,_=>rfl
 |j+1,[],h=>by simp at h
 |j+1,x::l,h=>by
  have:=ins_erase a j l (by simpa using h);simp only [List.take_succ_cons,List.drop_succ_cons,List.cons_append,List.eraseIdx_cons_succ];rw [this]
theorem ins_at {α:Type} (a:α) {j:Nat} {l:List α} (h:j≤l.length) (q:j<(l.take j++[a]++l.drop j).length):(l.take j++[a]++l.drop j)[j]=a:=by
 have e:(l.take j).length=j:=by simp;omega
 rw [List.getElem_append_left (by simp;omega),List.getElem_append_right (by omega)]
 simp
theorem EachP.ins {β α:Type} {A:β→α→SProp} {zs:List β} {ys:List α} {b:β} {a:α} {j:Nat} {m:Fr} (hj:j≤ys.length) (hl:zs.length=ys.length) (x:Sat [A b a,EachP A zs ys] m) :
  EachP A (zs.take j++[b]++zs.drop j) (ys.take j++[a]++ys.drop j) m:=by
 have e1:j<(zs.take j++[b]++zs.drop j).length:=by simp;omega
 have e2:j<(ys.take j++[a]++ys.drop j).length:=by simp;omega
 have:=EachP.put (A:=A) (a' :=a) j e1 e2 (h:=m) (by
  rw [ins_erase b j zs (by omega),ins_erase a j ys hj,ins_at b (by omega)];exact x)
 have e:(ys.take j++[a]++ys.drop j).set j a=ys.take j++[a]++ys.drop j:=by
  conv=>lhs;rw [show a=(ys.take j++[a]++ys.drop j)[j] from (ins_at a hj e2).symm]
  rw [ins_at a hj e2]
  conv=>lhs;arg 3;rw [← ins_at a hj e2]
  exact List.set_getElem_self _
 rwa [e] at this
theorem listIns {α:Type} {G:Gp α} {e:TypeId} {v:Value} {xs:List α} {css:List (List Value)} {c:List Value} {a:α} {j k' :Nat} {m:Fr} (hk:G.rp.k=k') (hj:j≤xs.length) (hl:css.length=xs.length)
  (h:Sat [OwnP (Rp.cells k') e v (css.take j++[c]++css.drop j),G.own c a,EachP G.own css xs] m):ListP G e v (xs.take j++[a]++xs.drop j) m:=by
 subst hk;obtain ⟨m1,m2,d,s1,s2,x,y⟩:=h;exact ⟨_,m1,m2,d,s1,s2,x,m2,Fr.emp,Fr.disj_symm (Fr.emp_disj _),Fr.sub_refl _,Fr.emp_sub _,EachP.ins hj hl y,trivial⟩
def atOf (L:List RecT) (x:RecT) (j:Nat) (a:Int):Prop:=(a= -1∧∀ k (hk:k<L.length),k<j→cmpR x L[k]≠0)∨∃ k,∃ hk:k<L.length,k<j∧a=(k:Int)∧cmpR x L[k]=0
theorem atOf_yes {L:List RecT} {x:RecT} {j:Nat} (hj:j<L.length) (h:cmpR x L[j]=0):atOf L x (j+1) (j:Int):=.inr ⟨j,hj,by omega,rfl,h⟩
theorem atOf_no {L:List RecT} {x:RecT} {j:Nat} {a:Int} (hj:j<L.length) (h:¬ cmpR x L[j]=0) (q:atOf L x j a):atOf L x (j+1) a:=by
 rcases q with ⟨q1,q2⟩|⟨k,hk,q1,q2,q3⟩
 ·refine .inl ⟨q1,fun k hk hkj=>?_⟩
  by_cases e:k=j
  ·subst e;exact h
  ·exact q2 k hk (by omega)
 ·exact .inr ⟨k,hk,by omega,q2,q3⟩
def undAt (L:List RecT) (i j:Nat) (u:Bool):Prop:=u=true↔∃ k,∃ hk:k<L.length,∃ hi:i<L.length,k<j∧i≠k∧over L[k] L[i]=true
theorem undAt_0 (L:List RecT) (i:Nat):undAt L i 0 false:=by simp [undAt]
theorem undAt_step {L:List RecT} {i j:Nat} {u:Bool} (hi:i<L.length) (hj:j<L.length) (h:undAt L i j u):undAt L i (j+1) (u ||(decide (i≠j) && over L[j] L[i])):=by
 unfold undAt at *;rw [Bool.or_eq_true,h]
 constructor
 ·rintro (⟨k,hk,hi',q1,q2,q3⟩|q)
  ·exact ⟨k,hk,hi',by omega,q2,q3⟩
  ·rw [Bool.and_eq_true,decide_eq_true_iff] at q
   exact ⟨j,hj,hi,by omega,q.1,q.2⟩
 ·rintro ⟨k,hk,hi',q1,q2,q3⟩
  by_cases e:k=j
  ·subst e;right;rw [Bool.and_eq_true,decide_eq_true_iff];exact ⟨q2,q3⟩
  ·exact .inl ⟨k,hk,hi',by omega,q2,q3⟩
theorem undAt_all {l L:List RecT} (hL:Least l L) {i:Nat} (hi:i<L.length) {u:Bool} (h:undAt L i L.length u):(u=false→noOver L L[i])∧(u=true→¬ noOver L L[i]):=by
 unfold undAt at h;rw [noOver_at hL hi]
 constructor
 ·rintro rfl k hk hik
  cases e:over L[k] L[i] with
  |false=>rfl
  |true=>exact absurd (h.2 ⟨k,hk,hi,hk,hik,e⟩) (by simp)
 ·rintro rfl q
  obtain ⟨k,hk,_,_,h2,h3⟩:=h.1 rfl;rw [q k hk h2] at h3;cases h3
end Go.Sp
