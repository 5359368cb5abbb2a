/- Texts of this proof. -/
import Derived.Test.YtodhbhanmdfdeaaGreatQSpRs4
namespace Go.Sp
theorem refP_next {α:Type} {one:RS→α × RS} {s:RS} {i:Nat} {x:List α × RS} (h:refP one i s=x) (hg:x.2.good=true):refP one (i+1) s=(x.1++[(one x.2).1],(one x.2).2):=by
 rw [refP,h,if_pos hg]
theorem refP_stop {α:Type} {one:RS→α × RS} {s:RS} {i:Nat} {x:List α × RS} (h:refP one i s=x) (hg:x.2.good=false):∀ {n:Nat},i≤n→refP one n s=x
 |0,hn=>by (obtain rfl:i=0:=by omega);exact h
 |n+1,hn=>by
  by_cases e:i=n+1
  ·rw [← e];exact h
  ·rw [refP,refP_stop h hg (n:=n) (by omega),if_neg (by rw [hg];decide)]
theorem refP_len {α:Type} {one:RS→α × RS} (ho:∀ s,(one s).2.rest.length≤s.rest.length) (s:RS):∀ n,(refP one n s).2.rest.length≤s.rest.length
 |0=>Nat.le_refl _
 |n+1=>by
  rw [refP]
  split
  ·exact Nat.le_trans (ho _) (refP_len ho s n)
  ·exact refP_len ho s n
theorem refP_size {α:Type} {one:RS→α × RS} (ho:∀ s,(one s).2.rest.length≤s.rest.length) (h8:∀ s,(one s).2.good=true→(one s).2.rest.length+8≤s.rest.length) (s:RS) :
  ∀ n,8*(refP one n s).1.length+(refP one n s).2.rest.length≤s.rest.length+8∧((refP one n s).2.good=true→8*(refP one n s).1.length+(refP one n s).2.rest.length≤s.rest.length)
 |0=>⟨by simp [refP],fun _=>by simp [refP]⟩
 |n+1=>by
  obtain ⟨h1,h2⟩:=refP_size ho h8 s n;rw [refP]
  split
  ·rename_i hg
   have h3:=h2 hg;have h4:=ho (refP one n s).2;have h5:=h8 (refP one n s).2;simp only [List.length_append,List.length_singleton];exact ⟨by omega,fun q=>by have:=h5 q;omega⟩
  ·exact ⟨h1,h2⟩
theorem refP_bad {α:Type} {one:RS→α × RS} {s:RS} (hg:s.good=false) (n:Nat):refP one n s=([],s):=refP_stop (i:=0) rfl hg (Nat.zero_le _)
theorem rowF_len {α:Type} {one:RS→α × RS} (ho:∀ s,(one s).2.rest.length≤s.rest.length) (most:Int) (s:RS):(rowF one most s).2.rest.length≤s.rest.length:=Nat.le_trans (refP_len ho _ _) (RS.count_len _ _)
theorem rowF_size {α:Type} {one:RS→α × RS} (ho:∀ s,(one s).2.rest.length≤s.rest.length) (h8:∀ s,(one s).2.good=true→(one s).2.rest.length+8≤s.rest.length) (most:Int) (s:RS):8*(rowF one most s).1.length≤s.rest.length:=by
 unfold rowF
 cases hg:(s.count most).2.good with
 |false=>rw [refP_bad hg];exact Nat.zero_le _
 |true =>
  obtain ⟨_,_,_,e⟩:=RS.count_good hg;have h1:=(refP_size ho h8 (s.count most).2 (s.count most).1.toNat).1;have h2:=congrArg List.length e;rw [List.length_append,be_length] at h2
  omega
theorem bytes_eight {most:Int} {s:RS} (h:(s.bytes most).2.good=true):(s.bytes most).2.rest.length+8≤s.rest.length:=by
 obtain ⟨_,_,e⟩:=RS.bytes_good h;have h2:=congrArg List.length e;rw [List.length_append,bytesOf_length] at h2
 omega
theorem leafF_len (most:Int) (s:RS):(leafF most s).2.rest.length≤s.rest.length:=Nat.le_trans (RS.bytes_len _ _) (RS.bytes_len _ _)
theorem leafF_8 (most:Int) (s:RS) (h:(leafF most s).2.good=true):(leafF most s).2.rest.length+8≤s.rest.length:=Nat.le_trans (bytes_eight h) (RS.bytes_len _ _)
theorem rootF_len (most:Int) (s:RS):(rootF most s).2.rest.length≤s.rest.length:=RS.bytes_len _ _
theorem rootF_8 (most:Int) (s:RS) (h:(rootF most s).2.good=true):(rootF most s).2.rest.length+8≤s.rest.length:=bytes_eight h
theorem evdF_len (most:Int) (s:RS):(evdF most s).2.rest.length≤s.rest.length:=RS.bytes_len _ _
theorem evdF_8 (most:Int) (s:RS) (h:(evdF most s).2.good=true):(evdF most s).2.rest.length+8≤s.rest.length:=bytes_eight h
theorem numF_8 (s:RS) (h:s.num.2.good=true):s.num.2.rest.length+8≤s.rest.length:=by
 obtain ⟨_,_,e⟩:=RS.num_good h;have h2:=congrArg List.length e;rw [List.length_append,be_length] at h2
 omega
theorem sGet_size {b:List UInt8} (hb:b.length≤1000000000):8*((sGet b).getD []).length≤b.length:=by
 cases e:sGet b with
 |none=>exact Nat.zero_le _
 |some l =>
  obtain ⟨_,h⟩:=(sGet_iff (by omega)).1 e;have h1:=sRows_min l;have h2:=congrArg List.length h;simp only [sB,List.length_append] at h2;simp only [Option.getD_some]
  omega
theorem refP_sets {most:Int} {s:RS} (hs:s.rest.length≤1000000000):∀ n,∀ x∈(refP (leafF most) n s).1,8*x.2.1.length≤s.rest.length
 |0=>fun x hx=>by cases hx
 |n+1=>fun x hx=>by
  rw [refP] at hx
  split at hx
  ·rcases List.mem_append.1 hx with hx|hx
   ·exact refP_sets hs n x hx
   ·rw [List.mem_singleton] at hx
    subst hx;have h1:=refP_len (leafF_len most) s n;have h2:=RS.bytes_len most (refP (leafF most) n s).2;have h3:=RS.bytes_out most ((refP (leafF most) n s).2.bytes most).2;exact Nat.le_trans (sGet_size (by omega)) (by omega)
  ·exact refP_sets hs n x hx
theorem heldF_B {b:List UInt8} {most:Int} (hb:b.length≤24000):HeldB (heldF most ⟨true,b⟩).1:=by
 unfold heldF HeldB
 simp only
 have h0:=rowF_size (leafF_len most) (leafF_8 most) most ⟨true,b⟩;have l0:=rowF_len (leafF_len most) most ⟨true,b⟩;have h1:=rowF_size (rootF_len most) (rootF_8 most) most (rowF (leafF most) most ⟨true,b⟩).2;have l1:=rowF_len (rootF_len most) most (rowF (leafF most) most ⟨true,b⟩).2;have h2:=rowF_size (evdF_len most) (evdF_8 most) most (rowF (rootF most) most (rowF (leafF most) most ⟨true,b⟩).2).2;have l2:=rowF_len (evdF_len most) most (rowF (rootF most) most (rowF (leafF most) most ⟨true,b⟩).2).2;have h3:=rowF_size RS.num_len numF_8 most (rowF (evdF most) most (rowF (rootF most) most (rowF (leafF most) most ⟨true,b⟩).2).2).2;simp only at h0 l0;refine ⟨⟨by omega,fun x hx=>?_⟩,by omega,by omega,by omega⟩;have h4:=RS.count_len most ⟨true,b⟩;simp only at h4;have:=refP_sets (most:=most) (s:=(RS.count most ⟨true,b⟩).2) (by omega) _ x hx
 omega
end Go.Sp
