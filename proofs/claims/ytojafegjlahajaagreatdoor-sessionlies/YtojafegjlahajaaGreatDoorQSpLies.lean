/- Texts of this proof. -/
import Derived.Test.YtojafegjlahajaaGreatDoorQSpPut
open Go
namespace Go.Sp
structure kv (o W:List (List UInt8)) (i n:Nat):Prop where
 hi:i≤o.length
 nd:o.Nodup
 sub:∀ p∈W,p∈o
 mm:∀ p∈o.drop i,p∈W
 ok:∀ p∈o,js p
 par:∀ q c,q++[c]∈o→q∈o.take i
 uX:n≤1+2*i
 bo:o.length≤1+2*i
theorem T_:js []:=⟨Nat.zero_le _,fun c hc=>by cases hc⟩
theorem kv.nil:kv [] [] 0 0:=⟨Nat.le_refl _,.nil,fun _ h=>(by cases h),fun _ h=>(by cases h),fun _ h=>(by cases h),fun _ _ h=>(by cases h),Nat.zero_le _,Nat.zero_le _⟩
theorem kv.one:kv [[]] [[]] 0 1 where
 hi:=Nat.zero_le _
 nd:=by simp
 sub:=fun _ h=>h
 mm:=fun _ h=>h
 ok:=fun p h=>by rw [List.mem_singleton.1 h];exact T_
 par:=fun q c h=>by
  have:=List.mem_singleton.1 h;exact absurd (congrArg List.length this) (by simp)
 uX:=Nat.le_refl _
 bo:=Nat.le_refl _
theorem kv.at {o W:List (List UInt8)} {i n:Nat} (h:kv o W i n) (hi:i<o.length):o[i]∈W∧js o[i] :=
 ⟨h.mm _ (by rw [List.drop_eq_getElem_cons hi];exact List.mem_cons_self),h.ok _ (List.getElem_mem hi)⟩
theorem Tz {o:List (List UInt8)} (nd:o.Nodup) {i:Nat} (hi:i<o.length):o[i] ∉ o.take i:=fun h=>by
 obtain ⟨j,hj,e⟩:=List.mem_iff_getElem.1 h;rw [List.length_take] at hj;rw [List.getElem_take] at e;exact List.pairwise_iff_getElem.1 (List.nodup_iff_pairwise_ne.1 nd) j i (by omega) hi (by omega) e
theorem kv.fresh {o W:List (List UInt8)} {i n:Nat} (h:kv o W i n) (hi:i<o.length) (c:UInt8):o[i]++[c] ∉ o:=fun q=>Tz h.nd hi (h.par _ _ q)
theorem kv.skip {o W:List (List UInt8)} {i n:Nat} (h:kv o W i n) (hi:i<o.length):kv o W (i+1) n where
 hi:=hi
 nd:=h.nd
 sub:=h.sub
 mm:=fun p hp=>h.mm p (by rw [List.drop_eq_getElem_cons hi];exact List.mem_cons_of_mem _ hp)
 ok:=h.ok
 par:=fun q c hq=>by rw [List.take_succ_eq_append_getElem hi];exact List.mem_append.2 (.inl (h.par q c hq))
 uX:=by have:=h.uX;omega
 bo:=by have:=h.bo;omega
theorem kv.told {o W dD:List (List UInt8)} {i n:Nat} (h:kv o W i n) (hi:i<o.length) (hA:dD.Nodup) (hs:∀ q∈dD,q=o[i]++[48]∨q=o[i]++[49]) (h2:dD.length≤2) (hl:dD≠[]→o[i].length<510):kv (o++dD) (W.erase o[i]++dD) (i+1) (n+dD.length) where
 hi:=by rw [List.length_append];omega
 nd:=by
  rw [List.nodup_append];refine ⟨h.nd,hA,fun a ha b hb e=>?_⟩;subst e
  rcases hs a hb with rfl|rfl
  ·exact h.fresh hi 48 ha
  ·exact h.fresh hi 49 ha
 sub:=fun p hp=>by
  rcases List.mem_append.1 hp with q|q
  ·exact List.mem_append.2 (.inl (h.sub p (List.mem_of_mem_erase q)))
  ·exact List.mem_append.2 (.inr q)
 mm:=fun p hp=>by
  rw [List.drop_append_of_le_length hi] at hp
  rcases List.mem_append.1 hp with q|q
  ·refine List.mem_append.2 (.inl ?_)
   have hne:p≠o[i]:=fun e=>by
    subst e;have hd:=h.nd;rw [← List.take_append_drop i o,List.drop_eq_getElem_cons hi,List.nodup_append] at hd;exact (List.nodup_cons.1 hd.2.1).1 q
   exact (List.mem_erase_of_ne hne).2 (h.mm p (by rw [List.drop_eq_getElem_cons hi];exact List.mem_cons_of_mem _ q))
  ·exact List.mem_append.2 (.inr q)
 ok:=fun p hp=>by
  rcases List.mem_append.1 hp with q|q
  ·exact h.ok p q
  ·have hlt:=hl (List.ne_nil_of_mem q)
   have h0:=h.ok _ (List.getElem_mem hi)
   rcases hs p q with rfl|rfl
   ·exact ⟨by simp;omega,fun c hc=>by
     rcases List.mem_append.1 hc with u|u
     ·exact h0.2 c u
     ·rw [List.mem_singleton.1 u];exact .inl rfl⟩
   ·exact ⟨by simp;omega,fun c hc=>by
     rcases List.mem_append.1 hc with u|u
     ·exact h0.2 c u
     ·rw [List.mem_singleton.1 u];exact .inr rfl⟩
 par:=fun q c hq=>by
  rw [List.take_append_of_le_length hi,List.take_succ_eq_append_getElem hi]
  rcases List.mem_append.1 hq with u|u
  ·exact List.mem_append.2 (.inl (h.par q c u))
  ·refine List.mem_append.2 (.inr (List.mem_singleton.2 ?_))
   rcases hs _ u with e|e
   ·exact (List.append_inj' e rfl).1
   ·exact (List.append_inj' e rfl).1
 uX:=by have:=h.uX;omega
 bo:=by have:=h.bo;rw [List.length_append];omega
end Go.Sp
