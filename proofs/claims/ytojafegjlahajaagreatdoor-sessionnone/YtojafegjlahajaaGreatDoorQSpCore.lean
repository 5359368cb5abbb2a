/- Texts of this proof. -/
import Derived.WalkKit
import Derived.Defers
import Derived.Recover
import Derived.Orders
namespace Go.Sp
abbrev Fr:=Nat→Option Obj
namespace Fr
def sub (h k:Fr):Prop:=∀ i o,h i=some o→k i=some o
def disj (h k:Fr):Prop:=∀ i,h i=none∨k i=none
def add (h k:Fr):Fr:=fun i=>(h i).or (k i)
def one (b:Nat) (o:Obj):Fr:=fun i=>if i=b then some o else none
def emp:Fr:=fun _=>none
theorem sub_refl (h:Fr):h.sub h:=fun _ _ x=>x
theorem sub_trans {a b c:Fr} (h:a.sub b) (k:b.sub c):a.sub c:=fun i o x=>k i o (h i o x)
theorem disj_symm {a b:Fr} (h:a.disj b):b.disj a:=fun i=>(h i).symm
theorem disj_sub {a b a' b' :Fr} (h:a.disj b) (ha:a'.sub a) (hb:b'.sub b):a'.disj b' :=fun i=>by
 rcases h i with x|x
 ·left;cases hx:a' i with
  |none=>rfl
  |some o=>rw [ha i o hx] at x;cases x
 ·right;cases hx:b' i with
  |none=>rfl
  |some o=>rw [hb i o hx] at x;cases x
theorem sub_add_left (a b:Fr):a.sub (a.add b):=fun i o h=>by simp [add,h]
theorem sub_add_right {a b:Fr} (hd:a.disj b):b.sub (a.add b):=fun i o h=>by
 rcases hd i with x|x
 ·simp [add,x,h]
 ·rw [h] at x;cases x
theorem add_sub {a b c:Fr} (ha:a.sub c) (hb:b.sub c):(a.add b).sub c:=fun i o h=>by
 simp only [add] at h
 cases hx:a i with
 |none=>rw [hx] at h;exact hb i o (by simpa using h)
 |some x=>rw [hx] at h;exact ha i o (by rw [hx];simpa using h)
theorem disj_add {a b c:Fr} (h1:a.disj c) (h2:b.disj c):(a.add b).disj c:=fun i=>by
 rcases h1 i with x|x
 ·rcases h2 i with y|y
  ·left;simp [add,x,y]
  ·exact .inr y
 ·exact .inr x
theorem disj_add_right {a b c:Fr} (h1:c.disj a) (h2:c.disj b):c.disj (a.add b):=disj_symm (disj_add (disj_symm h1) (disj_symm h2))
theorem emp_disj (a:Fr):emp.disj a:=fun _=>.inl rfl
theorem emp_sub (a:Fr):emp.sub a:=fun _ _ h=>by cases h
end Fr
abbrev SProp:=Fr→Prop
def Sat:List SProp→Fr→Prop
 |[],_=>True
 |A::η,h=>∃ h1 h2:Fr,h1.disj h2∧h1.sub h∧h2.sub h∧A h1∧Sat η h2
theorem Sat.mono:∀ {η:List SProp} {h k:Fr},h.sub k→Sat η h→Sat η k
 |[],_,_,_,_=>trivial
 |_::_,_,_,hs,⟨h1,h2,hd,a,b,x,y⟩=>⟨h1,h2,hd,Fr.sub_trans a hs,Fr.sub_trans b hs,x,y⟩
theorem Sat.cons {A:SProp} {η:List SProp} {h1 h2:Fr} (hd:h1.disj h2) (x:A h1) (y:Sat η h2):Sat (A::η) (h1.add h2) :=
 ⟨h1,h2,hd,Fr.sub_add_left _ _,Fr.sub_add_right hd,x,y⟩
theorem Sat.append:∀ {η ζ:List SProp} {h1 h2:Fr},h1.disj h2→Sat η h1→Sat ζ h2→Sat (η++ζ) (h1.add h2)
 |[],_,_,_,hd,_,y=>Sat.mono (Fr.sub_add_right hd) y
 |_::_,_,h1,h2,hd,⟨k1,k2,kd,s1,s2,x,y⟩,z=>by
  have d2:k2.disj h2:=Fr.disj_sub hd s2 (Fr.sub_refl _);refine ⟨k1,k2.add h2,Fr.disj_add_right kd (Fr.disj_sub hd s1 (Fr.sub_refl _)),Fr.sub_trans s1 (Fr.sub_add_left _ _),?_,x,Sat.append d2 y z⟩;exact Fr.add_sub (Fr.sub_trans s2 (Fr.sub_add_left _ _)) (Fr.sub_add_right hd)
theorem Sat.split:∀ {η ζ:List SProp} {h:Fr},Sat (η++ζ) h→∃ h1 h2:Fr,h1.disj h2∧h1.sub h∧h2.sub h∧Sat η h1∧Sat ζ h2
 |[],_,h,x=>⟨Fr.emp,h,Fr.emp_disj _,Fr.emp_sub _,Fr.sub_refl _,trivial,x⟩
 |_::η,ζ,h,⟨k1,k2,kd,s1,s2,x,y⟩=>by
  obtain ⟨m1,m2,md,t1,t2,p,q⟩:=Sat.split y;have d1:k1.disj m1:=Fr.disj_sub kd (Fr.sub_refl _) t1;have d2:k1.disj m2:=Fr.disj_sub kd (Fr.sub_refl _) t2;exact ⟨k1.add m1,m2,Fr.disj_add d2 md,Fr.add_sub s1 (Fr.sub_trans t1 s2),Fr.sub_trans t2 s2,Sat.cons d1 x p,q⟩
theorem Sat.swap {A B:SProp} {η:List SProp} {h:Fr}:Sat (A::B::η) h→Sat (B::A::η) h:=by
 rintro ⟨h1,h2,hd,s1,s2,x,k1,k2,kd,t1,t2,y,z⟩;have d1:h1.disj k1:=Fr.disj_sub hd (Fr.sub_refl _) t1;have d2:h1.disj k2:=Fr.disj_sub hd (Fr.sub_refl _) t2;exact ⟨k1,h1.add k2,Fr.disj_add_right (Fr.disj_symm d1) kd,Fr.sub_trans t1 s2,Fr.add_sub s1 (Fr.sub_trans t2 s2),y,Sat.cons d2 x z⟩
theorem Sat.cons_imp {A B:SProp} {η ζ:List SProp} {h:Fr} (hab:∀ h,A h→B h) (hs:∀ h,Sat η h→Sat ζ h):Sat (A::η) h→Sat (B::ζ) h :=
 fun ⟨h1,h2,hd,s1,s2,x,y⟩=>⟨h1,h2,hd,s1,s2,hab _ x,hs _ y⟩
theorem Sat.perm {η ζ:List SProp} (p:η.Perm ζ):∀ {h:Fr},Sat η h→Sat ζ h:=by
 induction p with
 |nil=>exact fun x=>x
 |cons A _ ih=>exact fun x=>Sat.cons_imp (fun _ y=>y) (fun _ y=>ih y) x
 |swap A B _=>exact fun x=>Sat.swap x
 |trans _ _ ih1 ih2=>exact fun x=>ih2 (ih1 x)
inductive Sel:List SProp→SProp→List SProp→Prop
 |here {A:SProp} {η:List SProp}:Sel (A::η) A η
 |there {A B:SProp} {η ζ:List SProp}:Sel η A ζ→Sel (B::η) A (B::ζ)
theorem Sel.perm {η ζ:List SProp} {A:SProp} (s:Sel η A ζ):η.Perm (A::ζ):=by
 induction s with
 |here=>exact .refl _
 |there _ ih=>exact (List.Perm.cons _ ih).trans (.swap _ _ _)
structure Gr where
 h:Fr
 os:Os
 tape:Nat→Question→Nat
 out:Array (Nat × ByteArray)
 dr:Nat
def Gr.add (g:Gr) (k:Fr):Gr:={ g with h:=g.h.add k }
end Go.Sp
namespace Go
def World.fr (w:World):Sp.Fr:=fun i=>w.heap[i]?
def World.gr (w:World):Sp.Gr:=⟨w.fr,w.os,w.tape,w.output,w.drawn⟩
end Go
namespace Go.Sp
def Holds (w:World) (g:Gr) (η:List SProp):Prop :=
 w.os=g.os∧w.tape=g.tape∧(w.output=g.out∧g.dr≤w.drawn)∧∃ h:Fr,g.h.disj h∧g.h.sub w.fr∧h.sub w.fr∧Sat η h
theorem Holds.perm {w:World} {g:Gr} {η ζ:List SProp} (h:Holds w g η) (p:η.Perm ζ):Holds w g ζ :=
 ⟨h.1,h.2.1,h.2.2.1,let ⟨k,a,b,c,d⟩:=h.2.2.2;⟨k,a,b,c,d.perm p⟩⟩
theorem Holds.sel {w:World} {g:Gr} {η ζ:List SProp} {A:SProp} (h:Holds w g η) (s:Sel η A ζ):Holds w g (A::ζ):=h.perm s.perm
theorem Holds.imp {w:World} {g:Gr} {η ζ:List SProp} (h:Holds w g η) (hs:∀ k,Sat η k→Sat ζ k):Holds w g ζ :=
 ⟨h.1,h.2.1,h.2.2.1,let ⟨k,a,b,c,d⟩:=h.2.2.2;⟨k,a,b,c,hs _ d⟩⟩
theorem Holds.entail {w:World} {g:Gr} {η ζ:List SProp} {A:SProp} (h:Holds w g (A::η)) (hs:∀ k,A k→Sat ζ k):Holds w g (ζ++η) :=
 h.imp fun _ ⟨_,_,hd,s1,s2,x,y⟩=>Sat.mono (Fr.add_sub s1 s2) (Sat.append hd (hs _ x) y)
theorem Holds.drop {w:World} {g:Gr} {η:List SProp} {A:SProp} (h:Holds w g (A::η)):Holds w g η :=
 h.imp fun _ ⟨_,_,_,_,s2,_,y⟩=>Sat.mono s2 y
theorem Holds.drop_all {w:World} {g:Gr} {η:List SProp} (h:Holds w g η):Holds w g []:=h.imp fun _ _=>trivial
theorem Holds.freeze {w:World} {g:Gr} {η:List SProp} {A:SProp} (h:Holds w g (A::η)) :
  ∃ k:Fr,A k∧g.h.disj k∧Holds w (g.add k) η:=by
 obtain ⟨a,b,c,k,hd,s1,s2,k1,k2,kd,t1,t2,x,y⟩:=h;refine ⟨k1,x,Fr.disj_sub hd (Fr.sub_refl _) t1,a,b,c,k2,?_,Fr.add_sub s1 (Fr.sub_trans t1 s2),Fr.sub_trans t2 s2,y⟩;exact Fr.disj_add (Fr.disj_sub hd (Fr.sub_refl _) t2) kd
theorem Holds.thaw {w:World} {g:Gr} {η:List SProp} {A:SProp} {k:Fr} (h:Holds w (g.add k) η) (x:A k) (hd:g.h.disj k) :
  Holds w g (A::η):=by
 obtain ⟨a,b,c,m,md,s1,s2,y⟩:=h;have d1:k.disj m:=Fr.disj_sub md (Fr.sub_add_right hd) (Fr.sub_refl _);have d2:g.h.disj m:=Fr.disj_sub md (Fr.sub_add_left _ _) (Fr.sub_refl _);exact ⟨a,b,c,k.add m,Fr.disj_add_right hd d2,Fr.sub_trans (Fr.sub_add_left _ _) s1,
  Fr.add_sub (Fr.sub_trans (Fr.sub_add_right hd) s1) s2,Sat.cons d1 x y⟩
theorem Holds.freezeAll {w:World} {g:Gr} {η ζ:List SProp} (h:Holds w g (η++ζ)) :
  ∃ k:Fr,Sat ζ k∧g.h.disj k∧Holds w (g.add k) η:=by
 obtain ⟨a,b,c,k,hd,s1,s2,y⟩:=h;obtain ⟨k1,k2,kd,t1,t2,p,q⟩:=Sat.split y;refine ⟨k2,q,Fr.disj_sub hd (Fr.sub_refl _) t2,a,b,c,k1,?_,Fr.add_sub s1 (Fr.sub_trans t2 s2),Fr.sub_trans t1 s2,p⟩;exact Fr.disj_add (Fr.disj_sub hd (Fr.sub_refl _) t1) (Fr.disj_symm kd)
theorem Holds.thawAll {w:World} {g:Gr} {η ζ:List SProp} {k:Fr} (h:Holds w (g.add k) η) (x:Sat ζ k) (hd:g.h.disj k):Holds w g (η++ζ):=by
 obtain ⟨a,b,c,m,md,s1,s2,y⟩:=h;have d1:k.disj m:=Fr.disj_sub md (Fr.sub_add_right hd) (Fr.sub_refl _);have d2:g.h.disj m:=Fr.disj_sub md (Fr.sub_add_left _ _) (Fr.sub_refl _);refine ⟨a,b,c,m.add k,Fr.disj_add_right d2 hd,Fr.sub_trans (Fr.sub_add_left _ _) s1,Fr.add_sub s2 (Fr.sub_trans (Fr.sub_add_right hd) s1),Sat.append (Fr.disj_symm d1) y x⟩
def blk (b:Nat) (o:Obj):SProp:=fun h=>h b=some o
theorem Holds.ground {w:World} {g:Gr} {η:List SProp} (h:Holds w g η):g.h.sub w.fr:=h.2.2.2.elim fun _ x=>x.2.1
theorem Holds.block {w:World} {g:Gr} {η:List SProp} {b:Nat} {o:Obj} (h:Holds w g (blk b o::η)):w.heap[b]?=some o:=by
 obtain ⟨_,_,_,k,_,_,s2,k1,_,_,t1,_,x,_⟩:=h;exact s2 b o (t1 b o x)
theorem Holds.drewN {w:World} {g:Gr} {η:List SProp} (h:Holds w g η) (n:Nat) (hn:w.drawn≤n):Holds { w with drawn:=n } g η:=⟨h.1,h.2.1,⟨h.2.2.1.1,Nat.le_trans h.2.2.1.2 hn⟩,h.2.2.2⟩
theorem Holds.alloc {w:World} {g:Gr} {η:List SProp} (h:Holds w g η) (o:Obj):Holds (w.alloc o) g (blk w.heap.size o::η):=by
 obtain ⟨a,b,c,k,hd,s1,s2,y⟩:=h;have hlt:∀ {f:Fr} {x:Obj},f.sub w.fr→f w.heap.size=some x→False:=fun hs hx=>by
  have:=hs _ _ hx
  simp [World.fr] at this
 have hn:∀ {f:Fr},f.sub w.fr→f w.heap.size=none:=fun {f} hs=>by
  cases hx:f w.heap.size with
  |none=>rfl
  |some x=>exact (hlt hs hx).elim
 have up:w.fr.sub (w.alloc o).fr:=fun i x hx=>by
  show (w.heap.push o)[i]?=some x
  have hx:w.heap[i]?=some x:=hx;have:i<w.heap.size:=by
   rcases Nat.lt_or_ge i w.heap.size with q|q
   ·exact q
   ·simp [Array.getElem?_eq_none q] at hx
  rw [Array.getElem?_push_lt this];rw [Array.getElem?_eq_getElem this] at hx;exact hx
 have dn:∀ {f:Fr},f.sub w.fr→f.disj (Fr.one w.heap.size o):=fun {f} hs i=>by
  by_cases hi:i=w.heap.size
  ·left;rw [hi];exact hn hs
  ·right;simp [Fr.one,hi]
 refine ⟨a,b,c,(Fr.one w.heap.size o).add k,Fr.disj_add_right (dn s1) hd,Fr.sub_trans s1 up,Fr.add_sub ?_ (Fr.sub_trans s2 up),Sat.cons (Fr.disj_symm (dn s2)) ?_ y⟩
 ·intro i x hx
  simp only [Fr.one] at hx
  split at hx
  ·rename_i hi;subst hi;cases hx;show (w.heap.push o)[w.heap.size]?=some o;simp
  ·cases hx
 ·simp [blk,Fr.one]
theorem Holds.setBlock {w w' :World} {g:Gr} {η:List SProp} {b:Nat} {o o' :Obj} (h:Holds w g (blk b o::η))
  (hb:w'.heap[b]?=some o') (hne:∀ i,i≠b→w'.heap[i]?=w.heap[i]?) (h1:w'.os=w.os) (h2:w'.tape=w.tape) (h3:w'.output=w.output) (h4:w.drawn≤w'.drawn:=by exact Nat.le_refl _) :
  Holds w' g (blk b o' ::η):=by
 obtain ⟨p,q,r,k,hd,s1,s2,k1,k2,kd,t1,t2,x,y⟩:=h;have x' :k1 b=some o:=x;have gb:g.h b=none:=by
  rcases hd b with z|z
  ·exact z
  ·rw [t1 b o x'] at z;cases z
 have kb:k2 b=none:=by
  rcases kd b with z|z
  ·rw [x'] at z;cases z
  ·exact z
 have keep:∀ {f:Fr},f b=none→f.sub w.fr→f.sub w'.fr:=fun {f} hf hs i z hz=>by
  have:i≠b:=by rintro rfl;rw [hf] at hz;cases hz
  show w'.heap[i]?=_
  rw [hne i this];exact hs i z hz
 have od:∀ {f:Fr},f b=none→f.disj (Fr.one b o'):=fun {f} hf i=>by
  by_cases hi:i=b
  ·left;rw [hi];exact hf
  ·right;simp [Fr.one,hi]
 refine ⟨h1.trans p,h2.trans q,⟨h3.trans r.1,Nat.le_trans r.2 h4⟩,(Fr.one b o').add k2,Fr.disj_add_right (od gb) (Fr.disj_sub hd (Fr.sub_refl _) t2),keep gb s1,Fr.add_sub ?_ (keep kb (Fr.sub_trans t2 s2)),
  Sat.cons (Fr.disj_symm (od kb)) ?_ y⟩
 ·intro i z hz
  simp only [Fr.one] at hz
  split at hz
  ·rename_i hi;subst hi;cases hz;exact hb
  ·cases hz
 ·simp [blk,Fr.one]
theorem Holds.of_world (w:World):Holds w w.gr []:=⟨rfl,rfl,⟨rfl,Nat.le_refl _⟩,Fr.emp,Fr.disj_symm (Fr.emp_disj _),Fr.sub_refl _,Fr.emp_sub _,trivial⟩
theorem Holds.below {w w' :World} (h:Holds w' w.gr []):RowKit.Below w.heap.size w w' :=by
 obtain ⟨a,b,⟨c,_⟩,_,_,s1,_,_⟩:=h;have hb:∀ i,i<w.heap.size→w'.heap[i]?=w.heap[i]?:=fun i hi=>by
  have:=s1 i w.heap[i] (by simp [World.gr,World.fr,hi]);rw [Array.getElem?_eq_getElem hi];exact this
 refine ⟨a,b,c,?_,hb⟩
 rcases Nat.eq_zero_or_pos w.heap.size with hz|hz
 ·omega
 ·rcases Nat.lt_or_ge (w.heap.size - 1) w'.heap.size with q|q
  ·omega
  ·have:=hb (w.heap.size - 1) (by omega)
   rw [Array.getElem?_eq_none q,Array.getElem?_eq_getElem (by omega)] at this
   cases this
theorem zh {A:SProp} {η:List SProp}:Sel (A::η) A η:=.here
theorem zt {A B:SProp} {η ζ:List SProp} (h:Sel η A ζ):Sel (B::η) A (B::ζ):=.there h
theorem zx1 {α:Type} {a:α} {as bs:List α}:a::as++bs=a::(as++bs):=rfl
theorem zx2 {α:Type} {as:List α}:[]++as=as:=rfl
theorem zx3 {α:Type} {as:List α}:as++[]=as:=List.append_nil as
end Go.Sp
