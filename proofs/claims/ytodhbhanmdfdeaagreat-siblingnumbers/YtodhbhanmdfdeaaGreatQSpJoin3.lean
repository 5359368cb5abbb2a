/- Texts of this proof, one behind the other. -/
import Derived.Test.YtodhbhanmdfdeaaGreatQSpJoin
section
/- Texts of this proof. -/
namespace Go.Sp
theorem cmpR_ne {x y:RecT} (h:cmpR x y≠0):cmpR y x≠0:=fun q=>h (by have:=cmpR_z.1 q;exact cmpR_z.2 ⟨by omega,by omega⟩)
theorem cmpR_zt {x y z:RecT} (h:cmpR x y=0) (h' :cmpR y z=0):cmpR x z=0:=by rw [cmpR_z] at h h' ⊢;omega
theorem cmpR_zs {x y:RecT} (h:cmpR x y=0):cmpR y x=0:=by rw [cmpR_z] at h ⊢;omega
theorem least_of:∀ {c:List RecT},c≠[]→∃ z∈c,∀ w∈c,¬ recB w<recB z
 |[],h=>absurd rfl h
 |[x],_=>⟨x,List.mem_cons_self,fun w hw=>by rw [List.mem_singleton.1 hw];exact List.lt_irrefl _⟩
 |x::y::c,_=>by
  obtain ⟨z,hz,hm⟩:=least_of (c:=y::c) (by simp)
  by_cases h:recB x<recB z
  ·refine ⟨x,List.mem_cons_self,fun w hw=>?_⟩
   rcases List.mem_cons.1 hw with rfl|hw
   ·exact List.lt_irrefl _
   ·exact fun q=>hm w hw (List.lt_trans q h)
  ·refine ⟨z,List.mem_cons_of_mem _ hz,fun w hw=>?_⟩
   rcases List.mem_cons.1 hw with rfl|hw
   ·exact h
   ·exact hm w hw
theorem exists_min {l:List RecT} {y:RecT} (hy:y∈l):∃ z,isMin l z∧cmpR z y=0:=by
 obtain ⟨z,hz,hm⟩:=least_of (c:=l.filter fun z=>decide (cmpR z y=0)) (fun q=>by
  have:y∈l.filter fun z=>decide (cmpR z y=0):=List.mem_filter.2 ⟨hy,decide_eq_true (cmpR_z.2 ⟨rfl,rfl⟩)⟩;rw [q] at this;cases this)
 obtain ⟨h1,h2⟩:=List.mem_filter.1 hz;have h2:=of_decide_eq_true h2;exact ⟨z,⟨h1,fun w hw hq=>hm w (List.mem_filter.2 ⟨hw,decide_eq_true (cmpR_zt (cmpR_zs hq) h2)⟩)⟩,h2⟩
def Least (l L:List RecT):Prop:=List.Pairwise (fun x y=>cmpR x y≠0) L∧∀ x,x∈L↔isMin l x
theorem Least.nil:Least [] []:=⟨.nil,fun x=>by simp [isMin]⟩
theorem Least.one {l L:List RecT} (h:Least l L) {x y:RecT} (hx:x∈L) (hy:y∈L) (e:cmpR x y=0):x=y:=by
 obtain ⟨i,hi,rfl⟩:=List.mem_iff_getElem.1 hx;obtain ⟨j,hj,rfl⟩:=List.mem_iff_getElem.1 hy;have hp:=List.pairwise_iff_getElem.1 h.1
 rcases Nat.lt_trichotomy i j with c|c|c
 ·exact absurd e (hp i j hi hj c)
 ·subst c;rfl
 ·exact absurd (cmpR_zs e) (hp j i hj hi c)
theorem Least.new {l L:List RecT} {x:RecT} (h:Least l L) (hx:∀ y∈L,cmpR x y≠0):Least (l++[x]) (L++[x]):=by
 refine ⟨List.pairwise_append.2 ⟨h.1,List.pairwise_singleton _ _,fun a ha b hb=>by rw [List.mem_singleton.1 hb];exact cmpR_ne (hx a ha)⟩,fun z=>?_⟩;rw [List.mem_append,List.mem_singleton]
 constructor
 ·rintro (hz|rfl)
  ·obtain ⟨a,b⟩:=(h.2 z).1 hz
   refine ⟨List.mem_append_left _ a,fun y hy hq=>?_⟩
   rcases List.mem_append.1 hy with hy|hy
   ·exact b y hy hq
   ·rw [List.mem_singleton.1 hy] at hq;exact absurd hq (cmpR_ne (hx z hz))
  ·refine ⟨by simp,fun y hy hq=>?_⟩
   rcases List.mem_append.1 hy with hy|hy
   ·obtain ⟨w,hw,e⟩:=exists_min hy
    exact absurd (cmpR_zt hq (cmpR_zs e)) (hx w ((h.2 w).2 hw))
   ·rw [List.mem_singleton.1 hy];exact List.lt_irrefl _
 ·rintro ⟨a,b⟩
  rcases List.mem_append.1 a with a|a
  ·exact .inl ((h.2 z).2 ⟨a,fun y hy=>b y (List.mem_append_left _ hy)⟩)
  ·exact .inr (List.mem_singleton.1 a)
theorem Least.put {l L:List RecT} {x:RecT} {k:Nat} (h:Least l L) (hk:k<L.length) (hd:cmpR x L[k]=0) (hb:recB x<recB L[k]):Least (l++[x]) (L.set k x):=by
 have hp:=List.pairwise_iff_getElem.1 h.1;have hmk:=(h.2 _).1 (List.getElem_mem hk);refine ⟨List.pairwise_iff_getElem.2 fun i j hi hj hij=>?_,fun z=>?_⟩
 ·have hi' :i<L.length:=by simpa using hi
  have hj' :j<L.length:=by simpa using hj
  have h0:=hp i j hi' hj' hij;rw [List.getElem_set,List.getElem_set]
  split
  ·rename_i c;subst c
   rw [if_neg (by omega)];exact fun q=>h0 (cmpR_zt (cmpR_zs hd) q)
  ·split
   ·rename_i c;subst c;exact fun q=>h0 (cmpR_zt q hd)
   ·exact h0
 ·have hin:∀ j (hj:j<L.length),j≠k→L[j]∈L.set k x:=fun j hj hjk=>by
   have:(L.set k x)[j]'(by simpa using hj)=L[j]:=by rw [List.getElem_set,if_neg (fun q=>hjk q.symm)]
   rw [← this];exact List.getElem_mem _
  have hxk:x∈L.set k x:=by
   have:(L.set k x)[k]'(by simpa using hk)=x:=by rw [List.getElem_set,if_pos rfl]
   exact List.mem_of_getElem this
  constructor
  ·intro hz
   obtain ⟨j,hj,e⟩:=List.mem_iff_getElem.1 hz;have hj' :j<L.length:=by simpa using hj
   rw [List.getElem_set] at e
   split at e
   ·subst e
    refine ⟨by simp,fun y hy hq=>?_⟩
    rcases List.mem_append.1 hy with hy|hy
    ·exact fun c=>hmk.2 y hy (cmpR_zt (cmpR_zs hd) hq) (List.lt_trans c hb)
    ·rw [List.mem_singleton.1 hy];exact List.lt_irrefl _
   ·rename_i c
    subst e;obtain ⟨a,b⟩:=(h.2 _).1 (List.getElem_mem hj');refine ⟨List.mem_append_left _ a,fun y hy hq=>?_⟩
    rcases List.mem_append.1 hy with hy|hy
    ·exact b y hy hq
    ·rw [List.mem_singleton.1 hy] at hq
     have h3:=cmpR_zt hq hd
     rcases Nat.lt_trichotomy j k with c2|c2|c2
     ·exact absurd h3 (hp j k hj' hk c2)
     ·exact absurd c2.symm c
     ·exact absurd (cmpR_zs h3) (hp k j hk hj' c2)
  ·rintro ⟨a,b⟩
   rcases List.mem_append.1 a with a|a
   ·have hz:=(h.2 z).2 ⟨a,fun y hy=>b y (List.mem_append_left _ hy)⟩
    obtain ⟨j,hj,rfl⟩:=List.mem_iff_getElem.1 hz
    by_cases c:j=k
    ·subst c
     exact absurd hb (b x (by simp) (cmpR_zs hd))
    ·exact hin j hj c
   ·rw [List.mem_singleton.1 a];exact hxk
theorem Least.keep {l L:List RecT} {x:RecT} {k:Nat} (h:Least l L) (ho:∀ y∈l++[x],recOk y=true) (hk:k<L.length) (hd:cmpR x L[k]=0) (hb:¬ recB x<recB L[k]):Least (l++[x]) L:=by
 have hin:=List.getElem_mem hk;have hmk:=(h.2 _).1 hin;refine ⟨h.1,fun z=>⟨fun hz=>?_,?_⟩⟩
 ·obtain ⟨a,b⟩:=(h.2 z).1 hz
  refine ⟨List.mem_append_left _ a,fun y hy hq=>?_⟩
  rcases List.mem_append.1 hy with hy|hy
  ·exact b y hy hq
  ·rw [List.mem_singleton.1 hy] at hq ⊢
   rw [h.one hz hin (cmpR_zt hq hd)];exact hb
 ·rintro ⟨a,b⟩
  rcases List.mem_append.1 a with a|a
  ·exact (h.2 z).2 ⟨a,fun y hy=>b y (List.mem_append_left _ hy)⟩
  ·rw [List.mem_singleton.1 a] at b ⊢
   have h1:=b _ (List.mem_append_left _ hmk.1) hd;have e:recB x=recB L[k]:=List.le_antisymm (List.not_lt.1 h1) (List.not_lt.1 hb);rw [recB_inj (ho x (by simp)) (ho _ (List.mem_append_left _ hmk.1)) e];exact hin
def noOver (L:List RecT) (x:RecT):Prop:=∀ y∈L,cmpR x y≠0→over y x=false
theorem Least.left {l L:List RecT} (h:Least l L) {x:RecT}:isLeft l x↔x∈L∧noOver L x :=
 ⟨fun ⟨a,b⟩=>⟨(h.2 x).2 a,fun y hy=>b y ((h.2 y).1 hy)⟩,fun ⟨a,b⟩=>⟨(h.2 x).1 a,fun y hy=>b y ((h.2 y).2 hy)⟩⟩
theorem noOver_at {l L:List RecT} (h:Least l L) {i:Nat} (hi:i<L.length):noOver L L[i]↔∀ k (hk:k<L.length),i≠k→over L[k] L[i]=false:=by
 have hp:=List.pairwise_iff_getElem.1 h.1
 constructor
 ·intro q k hk hik
  refine q _ (List.getElem_mem hk) ?_
  rcases Nat.lt_or_gt_of_ne hik with c|c
  ·exact hp i k hi hk c
  ·exact cmpR_ne (hp k i hk hi c)
 ·intro q y hy hq
  obtain ⟨k,hk,rfl⟩:=List.mem_iff_getElem.1 hy;refine q k hk fun c=>?_;subst c;exact hq (cmpR_z.2 ⟨rfl,rfl⟩)
def Outs (L:List RecT) (i:Nat) (o:List RecT):Prop:=RisesR o∧∀ x,x∈o↔x∈L.take i∧noOver L x
theorem Outs.nil (L:List RecT):Outs L 0 []:=⟨.nil,fun x=>by simp⟩
theorem Outs.skip {L o:List RecT} {i:Nat} (hi:i<L.length) (h:Outs L i o) (hn:¬ noOver L L[i]):Outs L (i+1) o:=by
 refine ⟨h.1,fun x=>?_⟩;rw [h.2,List.take_succ_eq_append_getElem hi,List.mem_append,List.mem_singleton];exact ⟨fun ⟨a,b⟩=>⟨.inl a,b⟩,fun ⟨a,b⟩=>⟨a.elim id fun q=>absurd (q ▸ b) hn,b⟩⟩
theorem Outs.put {l L o:List RecT} {i j:Nat} (hL:Least l L) (hi:i<L.length) (h:Outs L i o) (hn:noOver L L[i]) (hj:j≤o.length) (h1:∀ k (hk:k<o.length),k<j→cmpR o[k] L[i]<0) (h2:∀ hj:j<o.length,¬ cmpR o[j] L[i]<0) :
  Outs L (i+1) (o.take j++[L[i]]++o.drop j):=by
 have hp:=List.pairwise_iff_getElem.1 h.1;have hq:=List.pairwise_iff_getElem.1 hL.1;have hne:∀ x∈o,cmpR x L[i]≠0:=fun x hx=>by
  obtain ⟨k,hk,e⟩:=List.mem_iff_getElem.1 ((h.2 x).1 hx).1;have hk' :k<i:=by simp at hk;omega
  rw [List.getElem_take] at e;subst e;exact hq k i (by omega) hi hk'
 have hlt:∀ {x y:RecT},¬ cmpR x y<0→cmpR x y≠0→cmpR y x<0:=fun {x y} a b=>by
  rw [cmpR_lt] at a ⊢;rw [ne_eq,cmpR_z] at b
  omega
 have hgt:∀ x∈o.drop j,cmpR L[i] x<0:=fun x hx=>by
  obtain ⟨k,hk,e⟩:=List.mem_iff_getElem.1 hx;rw [List.getElem_drop] at e;have hk' :j+k<o.length:=by simp at hk;omega
  have hj' :j<o.length:=by omega
  have c:=hlt (h2 hj') (hne _ (List.getElem_mem hj'));subst e
  by_cases e:k=0
  ·subst e;exact c
  ·exact cmpR_trans c (hp j (j+k) hj' hk' (by omega))
 have hlo:∀ x∈o.take j,cmpR x L[i]<0:=fun x hx=>by
  obtain ⟨k,hk,e⟩:=List.mem_iff_getElem.1 hx;rw [List.getElem_take] at e;subst e
  simp at hk
  exact h1 k (by omega) (by omega)
 have ho:RisesR (o.take j++o.drop j):=by rw [List.take_append_drop];exact h.1
 obtain ⟨p1,p2,p3⟩:=List.pairwise_append.1 ho;refine ⟨?_,fun x=>?_⟩
 ·rw [List.append_assoc]
  refine List.pairwise_append.2 ⟨p1,List.pairwise_cons.2 ⟨hgt,p2⟩,fun a ha b hb=>?_⟩
  rcases List.mem_cons.1 hb with rfl|hb
  ·exact hlo a ha
  ·exact p3 a ha b hb
 ·have e:x∈o.take j++[L[i]]++o.drop j↔x∈o∨x=L[i]:=by
   conv=>rhs;rw [← List.take_append_drop j o]
   simp only [List.mem_append,List.mem_singleton]
   constructor
   ·rintro ((a|a)|a)<;>simp [a]
   ·rintro ((a|a)|a)<;>simp [a]
  rw [e,h.2,List.take_succ_eq_append_getElem hi,List.mem_append,List.mem_singleton];exact ⟨fun q=>q.elim (fun ⟨a,b⟩=>⟨.inl a,b⟩) fun q=>by subst q;exact ⟨.inr rfl,hn⟩,fun ⟨a,b⟩=>a.elim (fun a=>.inl ⟨a,b⟩) .inr⟩
theorem Outs.all {l L o:List RecT} (ho:∀ x∈l,recOk x=true) (hL:Least l L) (h:Outs L L.length o):o=joinL l :=
 joinL_of ho h.1 fun x=>by rw [h.2,List.take_length,hL.left]
end Go.Sp
end
section
/- Texts of this proof. -/
namespace Go.Sp
theorem joinL_sub {l:List RecT} (ho:∀ x∈l,recOk x=true):∀ x∈joinL l,x∈l:=fun _ hx=>((joinL_mem ho).1 hx).1.1
theorem oneK_of {l m:List RecT} (h:oneK l=true) (hs:∀ x∈m,x∈l):oneK m=true:=by
 have key:∀ {l:List RecT},oneK l=true→∀ x∈l,∀ y∈l,x.1=y.1:=fun {l} h x hx y hy=>by
  rw [oneK_iff] at h;obtain ⟨i,hi,rfl⟩:=List.mem_iff_getElem.1 hx;obtain ⟨j,hj,rfl⟩:=List.mem_iff_getElem.1 hy;rw [(h i hi).2,(h j hj).2]
 rw [oneK_iff]
 intro i hi
 exact ⟨oneK_all h _ (hs _ (List.getElem_mem _)),key h _ (hs _ (List.getElem_mem _)) _ (hs _ (List.getElem_mem _))⟩
end Go.Sp
end
