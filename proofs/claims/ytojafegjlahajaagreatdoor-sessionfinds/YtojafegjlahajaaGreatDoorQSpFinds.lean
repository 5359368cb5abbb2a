/- Texts of this proof. -/
import Derived.Test.YtojafegjlahajaaGreatDoorQSpPull
import Derived.Test.YtojafegjlahajaaGreatDoorQSpLies
open Go
namespace Go.Sp
theorem HS {α:Type} [BEq α] [LawfulBEq α]:∀ {l:List α} {k:Nat} (hk:k<l.length),l.Nodup→l.erase l[k]=l.eraseIdx k
 |x::l,0,_,_=>List.erase_cons_head x l
 |x::l,k+1,hk,h=>by
  have hk' :k<l.length:=by simpa using hk
  have hne:¬ (x ==l[k])=true:=fun e=>(List.nodup_cons.1 h).1 ((eq_of_beq e) ▸ List.getElem_mem hk')
  show (x::l).erase l[k]=x::l.eraseIdx k
  rw [List.erase_cons_tail hne,HS hk' (List.nodup_cons.1 h).2]
theorem Kq {α:Type} [BEq α] [LawfulBEq α]:∀ {l m:List α},l.Nodup→(∀ x∈l,x∈m)→l.length≤m.length
 |[],_,_,_=>Nat.zero_le _
 |x::l,m,h,hs=>by
  have hx:=hs x List.mem_cons_self;have hl:=Kq (l:=l) (m:=m.erase x) (List.nodup_cons.1 h).2 fun y hy=>(List.mem_erase_of_ne (fun e=>(List.nodup_cons.1 h).1 (by rw [← e];exact hy))).2 (hs y (List.mem_cons_of_mem _ hy));have:=List.length_erase_of_mem hx;have hp:=List.length_pos_of_mem hx;rw [List.length_cons];omega
def B4 (L:List aD):List (List UInt8):=[]::(L.map fun x=>((List.range 510).map fun d=>[(bq x.1).take d++[48],(bq x.1).take d++[49]]).flatten).flatten
theorem CT {α β:Type} {k:Nat} (f:α→List β):∀ (l:List α),(∀ x∈l,(f x).length=k)→((l.map f).flatten).length=l.length*k
 |[],_=>(Nat.zero_mul k).symm
 |x::l,h=>by
  rw [List.map_cons,List.flatten_cons,List.length_append,CT f l fun y hy=>h y (List.mem_cons_of_mem _ hy),h x List.mem_cons_self,List.length_cons,Nat.succ_mul];omega
theorem MB (L:List aD):(B4 L).length=1+L.length*1020:=by
 unfold B4;rw [List.length_cons,CT (k:=1020)]
 ·omega
 ·intro x _
  rw [CT (k:=2)]
  ·simp
  ·intro d _;rfl
attribute [local irreducible] bN bw
theorem Kp {L:List aD} {p:List UInt8} (h:(bN L p).1=3):2≤(di p L).length:=by
 rcases Nat.lt_or_ge (di p L).length 2 with q|q
 ·match e:di p L with
  |[]=>rw [yF e] at h;exact absurd (show (1:UInt8)=3 from h) (by decide)
  |[x]=>rw [yG e] at h;exact absurd (show (2:UInt8)=3 from h) (by decide)
  |x::y::l=>rw [e] at q;simp at q;omega
 ·exact q
theorem T4 {L:List aD} {p:List UInt8} (hp:p.length≤510) (h:(bN L p).1≠3):(bN L p).2.2.2.1=di p L∧((di p L).length<2∨p.length=510):=by
 rcases Nat.lt_or_ge (di p L).length 2 with q|q
 ·match e:di p L with
  |[]=>rw [yF e];exact ⟨rfl,.inl (by simp)⟩
  |[x]=>rw [yG e];exact ⟨rfl,.inl (by simp)⟩
  |x::y::l=>rw [e] at q;simp at q;omega
 ·rcases Nat.lt_or_ge p.length 510 with u|u
  ·rw [Bn q u] at h;exact absurd rfl h
  ·have u:p.length=510:=by omega
   rw [Bm q u];exact ⟨rfl,.inr u⟩
theorem TN {L:List aD} {q:List UInt8} {c:UInt8} (h:(bN L q).1=3) (hq:q.length<510) (hc:c=48∨c=49):q++[c]∈B4 L:=by
 have h2:=Kp h;obtain ⟨x,hx⟩:=List.exists_mem_of_length_pos (show 0<(di q L).length by omega);obtain ⟨Aj,hpre⟩:=List.mem_filter.1 hx;have e:q=(bq x.1).take q.length:=List.prefix_iff_eq_take.1 (List.isPrefixOf_iff_prefix.1 hpre);refine List.mem_cons_of_mem _ (List.mem_flatten.2 ⟨_,List.mem_map.2 ⟨x,Aj,rfl⟩,List.mem_flatten.2 ⟨_,List.mem_map.2 ⟨q.length,List.mem_range.2 hq,rfl⟩,?_⟩⟩);rw [← e]
 rcases hc with rfl|rfl
 ·exact List.mem_cons_self
 ·exact List.mem_cons_of_mem _ List.mem_cons_self
noncomputable def eY (L:List aD) (D:List (List UInt8)):List aP:=(D.map fun p=>((bN L p).2.2.2.1.map (·.2.1)).flatten).flatten
theorem Uz (L:List aD) (D:List (List UInt8)) (p:List UInt8):eY L D++((bN L p).2.2.2.1.map (·.2.1)).flatten=eY L (D++[p]):=by
 unfold eY;rw [List.map_append,List.flatten_append];simp
structure ko (A L:List aD) (D o W:List (List UInt8)) (n:Nat):Prop where
 nd:(D++o).Nodup
 perm:W.Perm o
 ok:∀ p∈D++o,gJ p
 par:∀ p∈D++o,p=[]∨∃ q c,p=q++[c]∧q∈D∧(c=48∨c=49)∧(bN L q).1=3∧q.length<510
 s5:n=D.length+o.length
 root:bw A []≠bw L []→[]∈D++o
 none:bw A []=bw L []→D++o=[]
 all:∀ q∈D,(bN L q).1=3→∀ c:UInt8,c=48∨c=49→bw A (q++[c])≠bw L (q++[c])→q++[c]∈D++o
theorem ko.len {A L:List aD} {D o W:List (List UInt8)} {n:Nat} (h:ko A L D o W n):n≤1+L.length*1020:=by
 rw [h.s5,← List.length_append,← MB];refine Kq h.nd fun p hp=>?_
 rcases h.par p hp with rfl|⟨q,c,rfl,_,hc,h3,hq⟩
 ·exact List.mem_cons_self
 ·exact TN h3 hq hc
theorem Bj {L:List aD} {p:List UInt8} (h:gJ p):ry L p=bw L p:=by unfold ry;rw [if_pos h]
theorem ko.start (A L:List aD):ko A L [] (c7 A (bw L) [[]]) (c7 A (bw L) [[]]) (c7 A (bw L) [[]]).length where
 nd:=by
  rw [List.nil_append];unfold c7;exact List.Nodup.sublist List.filter_sublist (by simp)
 perm:=List.Perm.refl _
 ok:=fun p hp=>by
  have:=(uZ.1 hp).1;rw [List.mem_singleton.1 this];exact Fx
 par:=fun p hp=>.inl (List.mem_singleton.1 (uZ.1 hp).1)
 s5:=by simp
 root:=fun h=>uZ.2 ⟨List.mem_singleton.2 rfl,by rw [Bj Fx];exact h⟩
 none:=fun h=>by
  rw [List.nil_append];unfold c7;rw [List.filter_cons,Bj Fx,decide_eq_true h];rfl
 all:=fun q hq=>by cases hq
theorem ko.fresh {A L:List aD} {D o W:List (List UInt8)} {n:Nat} (h:ko A L D o W n) {p:List UInt8} (hp:p∈o) (c:UInt8):p++[c] ∉ D++o:=fun hq=>by
 rcases h.par _ hq with e|⟨q,c',e,QX,_⟩
 ·exact absurd (congrArg List.length e) (by simp)
 ·have:=(List.append_inj' e rfl).1
  subst this;exact (List.nodup_append.1 h.nd).2.2 _ QX _ hp rfl
noncomputable def jZ (A L:List aD) (p:List UInt8):List (List UInt8):=if (bN L p).1=3 then c7 A (bw L) [p++[48],p++[49]] else []
theorem ko.step {A L:List aD} {D o W:List (List UInt8)} {n:Nat} (h:ko A L D o W n) {k:Nat} (hk:k<o.length) (hlt:(bN L o[k]).1=3→o[k].length<510) :
  ko A L (D++[o[k]]) (o.eraseIdx k++jZ A L o[k]) (W.erase o[k]++jZ A L o[k]) (n+(jZ A L o[k]).length):=by
 have hm:=List.getElem_mem hk;have tU:=h.ok _ (List.mem_append.2 (.inr hm));have dy:=List.nodup_append.1 h.nd;have he:o.erase o[k]=o.eraseIdx k:=HS hk dy.2.1;have hpe:(D++o).Perm ((D++[o[k]])++o.eraseIdx k):=by
  rw [List.append_assoc];refine List.Perm.append_left D ?_;rw [← he];exact List.perm_cons_erase hm
 have hin:∀ p,p∈(D++[o[k]])++(o.eraseIdx k++jZ A L o[k])↔p∈D++o∨p∈jZ A L o[k]:=fun p=>by
  rw [← List.append_assoc,List.mem_append,← hpe.mem_iff]
 have has:∀ p∈jZ A L o[k],(bN L o[k]).1=3∧∃ c:UInt8,p=o[k]++[c]∧(c=48∨c=49):=fun p hp=>by
  unfold jZ at hp
  split at hp
  ·rename_i h3
   have:=(uZ.1 hp).1
   rcases List.mem_cons.1 this with rfl|u
   ·exact ⟨h3,48,rfl,.inl rfl⟩
   ·exact ⟨h3,49,List.mem_singleton.1 u,.inr rfl⟩
  ·cases hp
 have hand:(jZ A L o[k]).Nodup:=by
  unfold jZ
  split
  ·refine List.Nodup.sublist List.filter_sublist ?_
   rw [List.nodup_cons];exact ⟨fun q=>absurd (List.append_cancel_left (List.mem_singleton.1 q)) (by decide),by simp⟩
  ·exact .nil
 have Aa:∀ c:UInt8,(c=48∨c=49)→(bN L o[k]).1=3→gJ (o[k]++[c]):=fun c hc h3=>⟨by have:=hlt h3;simp;omega,fun d hd=>by
  rcases List.mem_append.1 hd with u|u
  ·exact tU.2 d u
  ·rw [List.mem_singleton.1 u];exact hc⟩
 exact {
  nd:=by
   rw [← List.append_assoc,List.nodup_append];refine ⟨hpe.nodup_iff.1 h.nd,hand,fun a ha b hb e=>?_⟩;subst e;obtain ⟨_,c,rfl,_⟩:=has a hb;exact h.fresh hm c (hpe.mem_iff.2 ha)
  perm:=by
   refine List.Perm.append_right _ ?_;rw [← he];exact h.perm.erase _
  ok:=fun p hp=>by
   rcases (hin p).1 hp with q|q
   ·exact h.ok p q
   ·obtain ⟨h3,c,rfl,hc⟩:=has p q
    exact Aa c hc h3
  par:=fun p hp=>by
   rcases (hin p).1 hp with q|q
   ·rcases h.par p q with e|⟨r,c,e,hr,w⟩
    ·exact .inl e
    ·exact .inr ⟨r,c,e,List.mem_append.2 (.inl hr),w⟩
   ·obtain ⟨h3,c,rfl,hc⟩:=has p q
    exact .inr ⟨_,c,rfl,List.mem_append.2 (.inr (List.mem_singleton.2 rfl)),hc,h3,hlt h3⟩
  s5:=by
   have:=h.s5;have hl:=List.length_eraseIdx_of_lt hk;simp only [List.length_append,List.length_singleton,hl];omega
  root:=fun q=>(hin []).2 (.inl (h.root q))
  none:=fun q=>by
   have:=h.none q;exact absurd (this ▸ List.mem_append.2 (.inr hm):o[k]∈([]:List (List UInt8))) List.not_mem_nil
  all:=fun q hq h3 c hc hne=>by
   rw [hin]
   rcases List.mem_append.1 hq with u|u
   ·exact .inl (h.all q u h3 c hc hne)
   ·have e:=List.mem_singleton.1 u
    subst e;refine .inr ?_;unfold jZ;rw [if_pos h3];refine uZ.2 ⟨?_,by rw [Bj (Aa c hc h3)];exact hne⟩
    rcases hc with rfl|rfl
    ·exact List.mem_cons_self
    ·exact List.mem_cons_of_mem _ (List.mem_singleton.2 rfl) }
theorem ko.Oq {A L:List aD} {D W:List (List UInt8)} {n:Nat} (h:ko A L D [] W n) {x:aD} (hx:x∈L) (hne:∀ n,n≤510→bw A ((bq x.1).take n)≠bw L ((bq x.1).take n)):∀ y∈x.2.1,y∈eY L D:=by
 have hw:=kO x.1;have tK:∀ n,n≤510→(bq x.1).take n∈D∨∃ m,m≤510∧(bq x.1).take m∈D∧(bN L ((bq x.1).take m)).1≠3:=by
  intro n
  induction n with
  |zero =>
   intro _
   have:=h.root (hne 0 (Nat.zero_le _));rw [List.append_nil] at this;exact .inl this
  |succ n ih =>
   intro hn
   rcases ih (by omega) with q|q
   ·by_cases h3:(bN L ((bq x.1).take n)).1=3
    ·have hlt:n<(bq x.1).length:=by omega
     have e:=List.take_succ_eq_append_getElem hlt;have hc:=L6 x.1 _ (List.getElem_mem hlt);have:=h.all _ q h3 _ hc (by rw [← e];exact hne _ hn);rw [List.append_nil,← e] at this;exact .inl this
    ·exact .inr ⟨n,by omega,q,h3⟩
   ·exact .inr q
 have hend:∃ m,m≤510∧(bq x.1).take m∈D∧(bN L ((bq x.1).take m)).1≠3:=by
  rcases tK 510 (Nat.le_refl _) with q|q
  ·refine ⟨510,Nat.le_refl _,q,fun h3=>?_⟩
   have h2:=Kp h3;have hl:((bq x.1).take 510).length=510:=by rw [List.length_take];omega
   rw [Bm h2 hl] at h3;exact absurd (show (4:UInt8)=3 from h3) (by decide)
  ·exact q
 obtain ⟨m,hm,Qc,h3⟩:=hend;have hl:((bq x.1).take m).length≤510:=by rw [List.length_take];omega
 have hf:=(T4 hl h3).1;have hu:x∈di ((bq x.1).take m) L:=List.mem_filter.2 ⟨hx,List.isPrefixOf_iff_prefix.2 (List.take_prefix _ _)⟩
 intro y hy
 refine List.mem_flatten.2 ⟨_,List.mem_map.2 ⟨_,Qc,rfl⟩,List.mem_flatten.2 ⟨x.2.1,List.mem_map.2 ⟨x,?_,rfl⟩,hy⟩⟩;rw [hf];exact hu
end Go.Sp
