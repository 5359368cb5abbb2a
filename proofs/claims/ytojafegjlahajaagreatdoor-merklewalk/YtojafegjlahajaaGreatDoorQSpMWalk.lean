/- Texts of this proof. -/
import Derived.Test.YtojafegjlahajaaGreatDoorQSpPut2
open Go
namespace Go.Sp
theorem treeNode_leaves (L:List LeafT) (q:List UInt8):(treeNode L q).2.2.2.1=[]∨(treeNode L q).2.2.2.1=underL q L:=nodeN_leaves (510 - q.length) q (underL q L)
theorem pathOk_add {p:List UInt8} {z:UInt8} (h:pathOk p) (hl:p.length<510) (hz:z=48∨z=49):pathOk (p++[z]):=by
 refine ⟨by simp;omega,fun c hc=>?_⟩
 rcases List.mem_append.1 hc with q|q
 ·exact h.2 c q
 ·rw [List.mem_singleton.1 q];exact hz
theorem pre_snoc {p w:List UInt8} {z:UInt8}:(p++[z]) <+:w↔p <+:w∧w[p.length]?=some z:=by
 constructor
 ·rintro ⟨t,rfl⟩
  refine ⟨⟨z::t,by simp⟩,?_⟩
  simp
 ·rintro ⟨⟨t,rfl⟩,h⟩
  rw [List.getElem?_append_right (Nat.le_refl _),Nat.sub_self] at h
  cases t with
  |nil=>cases h
  |cons a t =>
   have:a=z:=by simpa using h
   subst this;exact ⟨t,by simp⟩
theorem under_split {L:List LeafT} {p:List UInt8} (hl:p.length<510):(underL (p++[48]) L++underL (p++[49]) L).Perm (underL p L):=by
 have h1:underL (p++[48]) L=(underL p L).filter fun x=>(p++[48]).isPrefixOf (wayOf x.1):=by
  rw [← underL_under p [48] L];rfl
 have h2:underL (p++[49]) L=(underL p L).filter fun x=>!(p++[48]).isPrefixOf (wayOf x.1):=by
  rw [← underL_under p [49] L];unfold underL;refine List.filter_congr fun x hx=>?_;have hp:p <+:wayOf x.1:=List.isPrefixOf_iff_prefix.1 (List.mem_filter.1 hx).2;have hlt:p.length<(wayOf x.1).length:=by rw [wayOf_len];exact hl
  have hc:=wayOf_01 x.1 _ (List.getElem_mem hlt);have hg:(wayOf x.1)[p.length]?=some (wayOf x.1)[p.length]:=List.getElem?_eq_getElem hlt
  rcases hc with hc|hc
  ·have a:(p++[48]).isPrefixOf (wayOf x.1)=true:=List.isPrefixOf_iff_prefix.2 (pre_snoc.2 ⟨hp,by rw [hg,hc]⟩)
   have b:(p++[49]).isPrefixOf (wayOf x.1)=false:=Bool.eq_false_iff.2 fun q=>by
    have:=(pre_snoc.1 (List.isPrefixOf_iff_prefix.1 q)).2;rw [hg,hc] at this;exact absurd this (by decide)
   rw [a,b];rfl
  ·have b:(p++[49]).isPrefixOf (wayOf x.1)=true:=List.isPrefixOf_iff_prefix.2 (pre_snoc.2 ⟨hp,by rw [hg,hc]⟩)
   have a:(p++[48]).isPrefixOf (wayOf x.1)=false:=Bool.eq_false_iff.2 fun q=>by
    have:=(pre_snoc.1 (List.isPrefixOf_iff_prefix.1 q)).2;rw [hg,hc] at this;exact absurd this (by decide)
   rw [a,b];rfl
 rw [h1,h2];exact List.filter_append_perm _ _
def keysU (L:List LeafT) (R:List (List UInt8)):List (List UInt8):=(R.map fun p=>(underL p L).map (·.1)).flatten
theorem keysU_cons (L:List LeafT) (p:List UInt8) (R:List (List UInt8)):keysU L (p::R)=(underL p L).map (·.1)++keysU L R:=rfl
theorem keysU_app (L:List LeafT) (R S:List (List UInt8)):keysU L (R++S)=keysU L R++keysU L S:=by unfold keysU;simp
def potU (L:List LeafT) (R:List (List UInt8)):Nat:=(R.map fun p=>(underL p L).length*(510 - p.length)).sum
theorem potU_cons (L:List LeafT) (p:List UInt8) (R:List (List UInt8)):potU L (p::R)=(underL p L).length*(510 - p.length)+potU L R:=rfl
theorem potU_app (L:List LeafT) (R S:List (List UInt8)):potU L (R++S)=potU L R+potU L S:=by unfold potU;simp
structure WalkU (L:List LeafT) (met:List (List UInt8)) (n:Nat) (R:List (List UInt8)):Prop where
 ok:∀ p∈R,pathOk p
 keys:(met++keysU L R).Perm (L.map (·.1))
 few:n+R.length+potU L R≤1+510*L.length
theorem WalkU.start (L:List LeafT):WalkU L [] 0 [[]] where
 ok:=fun p hp=>by rw [List.mem_singleton.1 hp];exact ⟨by simp,fun c hc=>by cases hc⟩
 keys:=by rw [keysU_cons,underL_nil];simp [keysU]
 few:=by rw [potU_cons,underL_nil];simp [potU];omega
theorem WalkU.flat {L:List LeafT} {met:List (List UInt8)} {n:Nat} {p:List UInt8} {R:List (List UInt8)} (h:WalkU L met n (p::R)):WalkU L (met++(underL p L).map (·.1)) (n+1) R where
 ok:=fun q hq=>h.ok q (by simp [hq])
 keys:=by have:=h.keys;rw [keysU_cons,← List.append_assoc] at this;exact this
 few:=by have:=h.few;rw [potU_cons,List.length_cons] at this;omega
theorem WalkU.split {L:List LeafT} {met:List (List UInt8)} {n:Nat} {p:List UInt8} {R:List (List UInt8)} (h:WalkU L met n (p::R)) (hl:p.length<510) (h2:2≤(underL p L).length):WalkU L met (n+1) (R++[p++[48],p++[49]]) where
 ok:=fun q hq=>by
  have hp:=h.ok p (by simp)
  rcases List.mem_append.1 hq with q1|q1
  ·exact h.ok q (by simp [q1])
  ·simp only [List.mem_cons,List.not_mem_nil,or_false] at q1
   rcases q1 with rfl|rfl
   ·exact pathOk_add hp hl (.inl rfl)
   ·exact pathOk_add hp hl (.inr rfl)
 keys:=by
  have hs:=(under_split (L:=L) hl).map (·.1);rw [List.map_append] at hs;have:=h.keys;rw [keysU_cons] at this;refine (List.Perm.append_left met ?_).trans this;rw [keysU_app];refine List.perm_append_comm.trans (List.Perm.append_right _ ?_);have e:keysU L [p++[48],p++[49]]=(underL (p++[48]) L).map (·.1)++(underL (p++[49]) L).map (·.1):=by unfold keysU;simp
  rw [e];exact hs
 few:=by
  have hs:=(under_split (L:=L) hl).length_eq;rw [List.length_append] at hs;have:=h.few;rw [potU_cons,List.length_cons] at this;have e:potU L [p++[48],p++[49]]=(underL (p++[48]) L).length*(510 - (p.length+1))+(underL (p++[49]) L).length*(510 - (p.length+1)):=by unfold potU;simp
  rw [potU_app,e,← Nat.add_mul,hs,List.length_append,List.length_cons,List.length_singleton];have e2:510 - p.length=(510 - (p.length+1))+1:=by omega
  rw [e2,Nat.mul_add,Nat.mul_one] at this
  omega
theorem WalkU.done {L:List LeafT} {met:List (List UInt8)} {n:Nat} (h:WalkU L met n []):met.Perm (L.map (·.1)):=by
 have:=h.keys
 simpa [keysU] using this
def foundU (met:List (List UInt8)) (k:List UInt8) (j:Nat):Nat:=((met.take j).filter fun x=>decide (x=k)).length
theorem foundU_succ {met:List (List UInt8)} {k:List UInt8} {j:Nat} (h:j<met.length):foundU met k (j+1)=foundU met k j+if met[j]=k then 1 else 0:=by
 unfold foundU;rw [List.take_succ_eq_append_getElem h,List.filter_append,List.length_append]
 by_cases q:met[j]=k
 ·simp [q]
 ·simp [q]
theorem foundU_le (met:List (List UInt8)) (k:List UInt8) (j:Nat):foundU met k j≤j:=by
 unfold foundU;have h1:=List.length_filter_le (fun x=>decide (x=k)) (met.take j);have h2:(met.take j).length≤j:=by simp;omega
 omega
theorem foundU_one {L:List LeafT} (hr:LRise L) {met:List (List UInt8)} (hm:met.Perm (L.map (·.1))) {x:LeafT} (hx:x∈L):foundU met x.1 met.length=1:=by
 unfold foundU;rw [List.take_length];have hnd:(L.map (·.1)).Nodup:=List.pairwise_map.2 (hr.apart);have h1:=(hm.filter fun y=>decide (y=x.1)).length_eq;rw [h1,← List.countP_eq_length_filter];have:List.countP (fun y=>decide (y=x.1)) (L.map (·.1))=List.count x.1 (L.map (·.1)):=by
  unfold List.count;refine List.countP_congr fun y _=>?_
  simp
 rw [this];rw [hnd.count];exact if_pos (List.mem_map.2 ⟨x,hx,rfl⟩)
end Go.Sp
