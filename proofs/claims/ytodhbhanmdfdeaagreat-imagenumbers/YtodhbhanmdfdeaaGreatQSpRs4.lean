/- Texts of this proof. -/
import Derived.Test.YtodhbhanmdfdeaaGreatQSpRs3
namespace Go.Sp
def HeldEl (h:HeldT):Prop:=(∀ x∈h.1,(x.1.length:Int)≤top64∧SRight x.2.1)∧(∀ x∈h.2.1,rootOk x=true)∧(∀ x∈h.2.2.1,evdOk x=true)∧∀ x∈h.2.2.2.1,InI64 x
def Sound {α:Type} (one:RS→Option (α × RS)) (enc:α→List UInt8) (Q:α→Prop):Prop :=
 ∀ s q,one s=some q→q.2.good=true→s.rest.length≤1000000000→s.good=true∧s.rest=enc q.1++q.2.rest∧Q q.1
theorem someP_sound {α:Type} {one:RS→Option (α × RS)} {enc:α→List UInt8} {Q:α→Prop} (ho:Sound one enc Q) (hlen:∀ s q,one s=some q→q.2.rest.length≤s.rest.length) {s:RS} (hs:s.rest.length≤1000000000):∀ {n:Nat} {p:List α × RS},someP one n s=some p→p.2.good=true →
  s.good=true∧p.1.length=n∧s.rest=rowsB enc p.1++p.2.rest∧∀ x∈p.1,Q x
 |0,p,h,hg=>by cases h;exact ⟨hg,rfl,rfl,fun x hx=>by cases hx⟩
 |n+1,p,h,hg=>by
  obtain ⟨q,hq,h⟩:=Option.bind_eq_some_iff.1 h
  split at h
  ·rename_i c
   obtain ⟨x,hx,rfl⟩:=Option.map_eq_some_iff.1 h;have l1:=someP_len hlen hq;obtain ⟨g1,e1,q1⟩:=ho _ _ hx hg (by omega);obtain ⟨g2,l2,e2,q2⟩:=someP_sound ho hlen hs hq g1;refine ⟨g2,by simp [l2],?_,fun y hy=>?_⟩
   ·rw [e2,e1];simp [rowsB]
   ·rcases List.mem_append.1 hy with hy|hy
    ·exact q2 y hy
    ·rw [List.mem_singleton.1 hy];exact q1
  ·cases h
theorem rowP_sound {α:Type} {one:RS→Option (α × RS)} {enc:α→List UInt8} {Q:α→Prop} (ho:Sound one enc Q) (hlen:∀ s q,one s=some q→q.2.rest.length≤s.rest.length) {s:RS} (hs:s.rest.length≤1000000000) {p:List α × RS} (h:rowP one s=some p) (hg:p.2.good=true) :
  s.good=true∧s.rest=be p.1.length++(rowsB enc p.1++p.2.rest)∧∀ x∈p.1,Q x:=by
 obtain ⟨g1,l1,e1,q1⟩:=someP_sound ho hlen (by have:=RS.count_len 1073741824 s;omega) h hg;obtain ⟨g2,b2,_,e2⟩:=RS.count_good g1;refine ⟨g2,?_,q1⟩;rw [e2,e1];have:(s.count 1073741824).1=(p.1.length:Int):=by rw [l1];omega
 rw [this]
theorem leafP_sound:Sound leafP leafB fun x=>(x.1.length:Int)≤top64∧SRight x.2.1:=fun s q h hg hs=>by
 obtain ⟨l,hl,rfl⟩:=Option.map_eq_some_iff.1 h;obtain ⟨g1,_,e1⟩:=RS.bytes_good (s:=(s.bytes top64).2) hg;obtain ⟨g2,b2,e2⟩:=RS.bytes_good (s:=s) g1;have h1:=RS.bytes_len top64 s;have h2:=RS.bytes_out top64 (s.bytes top64).2;obtain ⟨r1,r2⟩:=(sGet_iff (by omega)).1 hl;refine ⟨g2,?_,b2,r1⟩;rw [e2,e1]
 simp [leafB,r2]
theorem ownP_sound:Sound ownP (fun x=>bytesOf (rootB x)) fun x=>rootOk x=true:=fun s q h hg _=>by
 obtain ⟨l,hl,rfl⟩:=Option.map_eq_some_iff.1 h;obtain ⟨g2,_,e2⟩:=RS.bytes_good (s:=s) hg;obtain ⟨r1,r2⟩:=rootGet_iff.1 hl;exact ⟨g2,by rw [e2,← r2],r1⟩
theorem proofP_sound:Sound proofP (fun x=>bytesOf (evdB x)) fun x=>evdOk x=true:=fun s q h hg _=>by
 obtain ⟨l,hl,rfl⟩:=Option.map_eq_some_iff.1 h;obtain ⟨g2,_,e2⟩:=RS.bytes_good (s:=s) hg;obtain ⟨r1,r2⟩:=evdGet_iff.1 hl;exact ⟨g2,by rw [e2,← r2],r1⟩
theorem numP_sound:Sound numP be fun x=>InI64 x:=fun s q h hg _=>by
 cases h
 obtain ⟨g2,i2,e2⟩:=RS.num_good (s:=s) hg;exact ⟨g2,e2,i2⟩
theorem heldP_sound {b:List UInt8} (hb:b.length≤1000000000) {h:HeldT} {s:RS} (e:heldP ⟨true,b⟩=some (h,s)) (hg:s.good=true):b=heldB h++s.rest∧HeldEl h:=by
 unfold heldP at e;obtain ⟨p,hp,e⟩:=Option.bind_eq_some_iff.1 e;obtain ⟨q,hq,e⟩:=Option.bind_eq_some_iff.1 e;obtain ⟨w,hw,e⟩:=Option.bind_eq_some_iff.1 e;obtain ⟨z,hz,e⟩:=Option.map_eq_some_iff.1 e;obtain ⟨rfl,rfl⟩:=Prod.mk.inj e;have l1:=rowP_len leafP_len hp;have l2:=rowP_len ownP_len hq;have l3:=rowP_len proofP_len hw;simp only at l1;obtain ⟨g4,e4,q4⟩:=rowP_sound numP_sound numP_len (by omega) hz hg;obtain ⟨g3,e3,q3⟩:=rowP_sound proofP_sound proofP_len (by omega) hw g4;obtain ⟨g2,e2,q2⟩:=rowP_sound ownP_sound ownP_len (by omega) hq g3;obtain ⟨_,e1,q1⟩:=rowP_sound leafP_sound leafP_len hb hp g2;refine ⟨?_,q1,q2,q3,q4⟩;rw [heldB_eq];simp only at e1 ⊢;rw [← e4,← e3,← e2,← e1]
theorem rowsB_min8 {α:Type} {b:α→List UInt8} (hb:∀ x,8≤(b x).length) (l:List α):8*l.length≤(rowsB b l).length:=by
 induction l with
 |nil=>simp
 |cons x l ih=>rw [rowsB_cons,List.length_append,List.length_cons];have:=hb x;omega
theorem heldB_B {h:HeldT} (hl:(heldB h).length≤24000):HeldB h:=by
 have h0:=rowsB_min8 (b:=leafB) (fun x=>by simp [leafB];omega) h.1;have h1:=rowsB_min8 (b:=fun x=>bytesOf (rootB x)) (fun x=>by simp) h.2.1;have h2:=rowsB_min8 (b:=fun x=>bytesOf (evdB x)) (fun x=>by simp) h.2.2.1;have h3:=rowsB_min8 (b:=be) (fun x=>by simp) h.2.2.2.1;have hs:(heldB h).length=32+(rowsB leafB h.1).length+(rowsB (fun x=>bytesOf (rootB x)) h.2.1).length+(rowsB (fun x=>bytesOf (evdB x)) h.2.2.1).length+(rowsB be h.2.2.2.1).length:=by
  simp only [heldB,List.length_append,be_length];omega
 refine ⟨⟨by omega,fun x hx=>?_⟩,by omega,by omega,by omega⟩;have h4:=leafRow_le hx;have h5:=sRows_min x.2.1;have h6:(sB x.2.1).length=8+(sRows x.2.1).length:=by simp [sB]
 omega
def GetB (b:List UInt8):Prop:=∀ h s,heldP ⟨true,b⟩=some (h,s)→s.done=true→HeldB h
theorem getB_small {b:List UInt8} (hb:b.length≤24000):GetB b:=fun h s e hd=>by
 obtain ⟨g1,g2⟩:=RS.done_iff.1 hd;obtain ⟨e1,_⟩:=heldP_sound (by omega) e g1;rw [g2,List.append_nil] at e1;exact heldB_B (by rw [← e1];exact hb)
end Go.Sp
