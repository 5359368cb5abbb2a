/- Texts of this proof, one behind the other. -/
import Derived.WalkKit
import Derived.Defers
import Derived.Recover
import Derived.Orders
import Derived.RangeFuncLeaves
import Derived.WalkLawsBesides
import Derived.IntWalk
import Derived.WalkSpells
section
/- Texts of this proof, one behind the other. -/
section
/- Texts of this proof, one behind the other. -/
section
/- Texts of this proof. -/
namespace Go.Sp
abbrev Fr:=Nat→Option Obj
namespace Fr
def sub (h k:Fr):Prop:=∀ i o,h i=some o→k i=some o
def disj (h k:Fr):Prop:=∀ i,h i=none∨k i=none
def add (h k:Fr):Fr:=fun i=>(h i).or (k i)
def one (b:Nat) (o:Obj):Fr:=fun i=>if i=b then some o else none
def emp:Fr:=fun _=>none
theorem sub_refl (h:Fr):h.sub h:=fun _ _ x=>x
theorem sub_trans {a b c:Fr} (h:a.sub b) (k:b.sub c):a.sub c:=fun i o x=>k i o (h i o x)
theorem disj_symm {a b:Fr} (h:a.disj b):b.disj a:=fun i=>(h i).symm
theorem disj_sub {a b a' b' :Fr} (h:a.disj b) (ha:a'.sub a) (hb:b'.sub b):a'.disj b' :=fun i=>by
 rcases h i with x|x
 ·left;cases hx:a' i with
  |none=>rfl
  |some o=>rw [ha i o hx] at x;cases x
 ·right;cases hx:b' i with
  |none=>rfl
  |some o=>rw [hb i o hx] at x;cases x
theorem sub_add_left (a b:Fr):a.sub (a.add b):=fun i o h=>by simp [add,h]
theorem sub_add_right {a b:Fr} (hd:a.disj b):b.sub (a.add b):=fun i o h=>by
 rcases hd i with x|x
 ·simp [add,x,h]
 ·rw [h] at x;cases x
theorem add_sub {a b c:Fr} (ha:a.sub c) (hb:b.sub c):(a.add b).sub c:=fun i o h=>by
 simp only [add] at h
 cases hx:a i with
 |none=>rw [hx] at h;exact hb i o (by simpa using h)
 |some x=>rw [hx] at h;exact ha i o (by rw [hx];simpa using h)
theorem disj_add {a b c:Fr} (h1:a.disj c) (h2:b.disj c):(a.add b).disj c:=fun i=>by
 rcases h1 i with x|x
 ·rcases h2 i with y|y
  ·left;simp [add,x,y]
  ·exact .inr y
 ·exact .inr x
theorem disj_add_right {a b c:Fr} (h1:c.disj a) (h2:c.disj b):c.disj (a.add b):=disj_symm (disj_add (disj_symm h1) (disj_symm h2))
theorem emp_disj (a:Fr):emp.disj a:=fun _=>.inl rfl
theorem emp_sub (a:Fr):emp.sub a:=fun _ _ h=>by cases h
end Fr
abbrev SProp:=Fr→Prop
def Sat:List SProp→Fr→Prop
 |[],_=>True
 |A::η,h=>∃ h1 h2:Fr,h1.disj h2∧h1.sub h∧h2.sub h∧A h1∧Sat η h2
theorem Sat.mono:∀ {η:List SProp} {h k:Fr},h.sub k→Sat η h→Sat η k
 |[],_,_,_,_=>trivial
 |_::_,_,_,hs,⟨h1,h2,hd,a,b,x,y⟩=>⟨h1,h2,hd,Fr.sub_trans a hs,Fr.sub_trans b hs,x,y⟩
theorem Sat.cons {A:SProp} {η:List SProp} {h1 h2:Fr} (hd:h1.disj h2) (x:A h1) (y:Sat η h2):Sat (A::η) (h1.add h2) :=
 ⟨h1,h2,hd,Fr.sub_add_left _ _,Fr.sub_add_right hd,x,y⟩
theorem Sat.append:∀ {η ζ:List SProp} {h1 h2:Fr},h1.disj h2→Sat η h1→Sat ζ h2→Sat (η++ζ) (h1.add h2)
 |[],_,_,_,hd,_,y=>Sat.mono (Fr.sub_add_right hd) y
 |_::_,_,h1,h2,hd,⟨k1,k2,kd,s1,s2,x,y⟩,z=>by
  have d2:k2.disj h2:=Fr.disj_sub hd s2 (Fr.sub_refl _);refine ⟨k1,k2.add h2,Fr.disj_add_right kd (Fr.disj_sub hd s1 (Fr.sub_refl _)),Fr.sub_trans s1 (Fr.sub_add_left _ _),?_,x,Sat.append d2 y z⟩;exact Fr.add_sub (Fr.sub_trans s2 (Fr.sub_add_left _ _)) (Fr.sub_add_right hd)
theorem Sat.split:∀ {η ζ:List SProp} {h:Fr},Sat (η++ζ) h→∃ h1 h2:Fr,h1.disj h2∧h1.sub h∧h2.sub h∧Sat η h1∧Sat ζ h2
 |[],_,h,x=>⟨Fr.emp,h,Fr.emp_disj _,Fr.emp_sub _,Fr.sub_refl _,trivial,x⟩
 |_::η,ζ,h,⟨k1,k2,kd,s1,s2,x,y⟩=>by
  obtain ⟨m1,m2,md,t1,t2,p,q⟩:=Sat.split y;have d1:k1.disj m1:=Fr.disj_sub kd (Fr.sub_refl _) t1;have d2:k1.disj m2:=Fr.disj_sub kd (Fr.sub_refl _) t2;exact ⟨k1.add m1,m2,Fr.disj_add d2 md,Fr.add_sub s1 (Fr.sub_trans t1 s2),Fr.sub_trans t2 s2,Sat.cons d1 x p,q⟩
theorem Sat.swap {A B:SProp} {η:List SProp} {h:Fr}:Sat (A::B::η) h→Sat (B::A::η) h:=by
 rintro ⟨h1,h2,hd,s1,s2,x,k1,k2,kd,t1,t2,y,z⟩;have d1:h1.disj k1:=Fr.disj_sub hd (Fr.sub_refl _) t1;have d2:h1.disj k2:=Fr.disj_sub hd (Fr.sub_refl _) t2;exact ⟨k1,h1.add k2,Fr.disj_add_right (Fr.disj_symm d1) kd,Fr.sub_trans t1 s2,Fr.add_sub s1 (Fr.sub_trans t2 s2),y,Sat.cons d2 x z⟩
theorem Sat.cons_imp {A B:SProp} {η ζ:List SProp} {h:Fr} (hab:∀ h,A h→B h) (hs:∀ h,Sat η h→Sat ζ h):Sat (A::η) h→Sat (B::ζ) h :=
 fun ⟨h1,h2,hd,s1,s2,x,y⟩=>⟨h1,h2,hd,s1,s2,hab _ x,hs _ y⟩
theorem Sat.perm {η ζ:List SProp} (p:η.Perm ζ):∀ {h:Fr},Sat η h→Sat ζ h:=by
 induction p with
 |nil=>exact fun x=>x
 |cons A _ ih=>exact fun x=>Sat.cons_imp (fun _ y=>y) (fun _ y=>ih y) x
 |swap A B _=>exact fun x=>Sat.swap x
 |trans _ _ ih1 ih2=>exact fun x=>ih2 (ih1 x)
inductive Sel:List SProp→SProp→List SProp→Prop
 |here {A:SProp} {η:List SProp}:Sel (A::η) A η
 |there {A B:SProp} {η ζ:List SProp}:Sel η A ζ→Sel (B::η) A (B::ζ)
theorem Sel.perm {η ζ:List SProp} {A:SProp} (s:Sel η A ζ):η.Perm (A::ζ):=by
 induction s with
 |here=>exact .refl _
 |there _ ih=>exact (List.Perm.cons _ ih).trans (.swap _ _ _)
structure Gr where
 h:Fr
 os:Os
 tape:Nat→Question→Nat
 out:Array (Nat × ByteArray)
 dr:Nat
def Gr.add (g:Gr) (k:Fr):Gr:={ g with h:=g.h.add k }
end Go.Sp
namespace Go
def World.fr (w:World):Sp.Fr:=fun i=>w.heap[i]?
def World.gr (w:World):Sp.Gr:=⟨w.fr,w.os,w.tape,w.output,w.drawn⟩
end Go
namespace Go.Sp
def Holds (w:World) (g:Gr) (η:List SProp):Prop :=
 w.os=g.os∧w.tape=g.tape∧(w.output=g.out∧g.dr≤w.drawn)∧∃ h:Fr,g.h.disj h∧g.h.sub w.fr∧h.sub w.fr∧Sat η h
theorem Holds.perm {w:World} {g:Gr} {η ζ:List SProp} (h:Holds w g η) (p:η.Perm ζ):Holds w g ζ :=
 ⟨h.1,h.2.1,h.2.2.1,let ⟨k,a,b,c,d⟩:=h.2.2.2;⟨k,a,b,c,d.perm p⟩⟩
theorem Holds.sel {w:World} {g:Gr} {η ζ:List SProp} {A:SProp} (h:Holds w g η) (s:Sel η A ζ):Holds w g (A::ζ):=h.perm s.perm
theorem Holds.imp {w:World} {g:Gr} {η ζ:List SProp} (h:Holds w g η) (hs:∀ k,Sat η k→Sat ζ k):Holds w g ζ :=
 ⟨h.1,h.2.1,h.2.2.1,let ⟨k,a,b,c,d⟩:=h.2.2.2;⟨k,a,b,c,hs _ d⟩⟩
theorem Holds.entail {w:World} {g:Gr} {η ζ:List SProp} {A:SProp} (h:Holds w g (A::η)) (hs:∀ k,A k→Sat ζ k):Holds w g (ζ++η) :=
 h.imp fun _ ⟨_,_,hd,s1,s2,x,y⟩=>Sat.mono (Fr.add_sub s1 s2) (Sat.append hd (hs _ x) y)
theorem Holds.drop {w:World} {g:Gr} {η:List SProp} {A:SProp} (h:Holds w g (A::η)):Holds w g η :=
 h.imp fun _ ⟨_,_,_,_,s2,_,y⟩=>Sat.mono s2 y
theorem Holds.drop_all {w:World} {g:Gr} {η:List SProp} (h:Holds w g η):Holds w g []:=h.imp fun _ _=>trivial
theorem Holds.freeze {w:World} {g:Gr} {η:List SProp} {A:SProp} (h:Holds w g (A::η)) :
  ∃ k:Fr,A k∧g.h.disj k∧Holds w (g.add k) η:=by
 obtain ⟨a,b,c,k,hd,s1,s2,k1,k2,kd,t1,t2,x,y⟩:=h;refine ⟨k1,x,Fr.disj_sub hd (Fr.sub_refl _) t1,a,b,c,k2,?_,Fr.add_sub s1 (Fr.sub_trans t1 s2),Fr.sub_trans t2 s2,y⟩;exact Fr.disj_add (Fr.disj_sub hd (Fr.sub_refl _) t2) kd
theorem Holds.thaw {w:World} {g:Gr} {η:List SProp} {A:SProp} {k:Fr} (h:Holds w (g.add k) η) (x:A k) (hd:g.h.disj k) :
  Holds w g (A::η):=by
 obtain ⟨a,b,c,m,md,s1,s2,y⟩:=h;have d1:k.disj m:=Fr.disj_sub md (Fr.sub_add_right hd) (Fr.sub_refl _);have d2:g.h.disj m:=Fr.disj_sub md (Fr.sub_add_left _ _) (Fr.sub_refl _);exact ⟨a,b,c,k.add m,Fr.disj_add_right hd d2,Fr.sub_trans (Fr.sub_add_left _ _) s1,
  Fr.add_sub (Fr.sub_trans (Fr.sub_add_right hd) s1) s2,Sat.cons d1 x y⟩
theorem Holds.freezeAll {w:World} {g:Gr} {η ζ:List SProp} (h:Holds w g (η++ζ)) :
  ∃ k:Fr,Sat ζ k∧g.h.disj k∧Holds w (g.add k) η:=by
 obtain ⟨a,b,c,k,hd,s1,s2,y⟩:=h;obtain ⟨k1,k2,kd,t1,t2,p,q⟩:=Sat.split y;refine ⟨k2,q,Fr.disj_sub hd (Fr.sub_refl _) t2,a,b,c,k1,?_,Fr.add_sub s1 (Fr.sub_trans t2 s2),Fr.sub_trans t1 s2,p⟩;exact Fr.disj_add (Fr.disj_sub hd (Fr.sub_refl _) t1) (Fr.disj_symm kd)
theorem Holds.thawAll {w:World} {g:Gr} {η ζ:List SProp} {k:Fr} (h:Holds w (g.add k) η) (x:Sat ζ k) (hd:g.h.disj k):Holds w g (η++ζ):=by
 obtain ⟨a,b,c,m,md,s1,s2,y⟩:=h;have d1:k.disj m:=Fr.disj_sub md (Fr.sub_add_right hd) (Fr.sub_refl _);have d2:g.h.disj m:=Fr.disj_sub md (Fr.sub_add_left _ _) (Fr.sub_refl _);refine ⟨a,b,c,m.add k,Fr.disj_add_right d2 hd,Fr.sub_trans (Fr.sub_add_left _ _) s1,Fr.add_sub s2 (Fr.sub_trans (Fr.sub_add_right hd) s1),Sat.append (Fr.disj_symm d1) y x⟩
def blk (b:Nat) (o:Obj):SProp:=fun h=>h b=some o
theorem Holds.ground {w:World} {g:Gr} {η:List SProp} (h:Holds w g η):g.h.sub w.fr:=h.2.2.2.elim fun _ x=>x.2.1
theorem Holds.block {w:World} {g:Gr} {η:List SProp} {b:Nat} {o:Obj} (h:Holds w g (blk b o::η)):w.heap[b]?=some o:=by
 obtain ⟨_,_,_,k,_,_,s2,k1,_,_,t1,_,x,_⟩:=h;exact s2 b o (t1 b o x)
theorem Holds.drewN {w:World} {g:Gr} {η:List SProp} (h:Holds w g η) (n:Nat) (hn:w.drawn≤n):Holds { w with drawn:=n } g η:=⟨h.1,h.2.1,⟨h.2.2.1.1,Nat.le_trans h.2.2.1.2 hn⟩,h.2.2.2⟩
theorem Holds.alloc {w:World} {g:Gr} {η:List SProp} (h:Holds w g η) (o:Obj):Holds (w.alloc o) g (blk w.heap.size o::η):=by
 obtain ⟨a,b,c,k,hd,s1,s2,y⟩:=h;have hlt:∀ {f:Fr} {x:Obj},f.sub w.fr→f w.heap.size=some x→False:=fun hs hx=>by
  have:=hs _ _ hx
  simp [World.fr] at this
 have hn:∀ {f:Fr},f.sub w.fr→f w.heap.size=none:=fun {f} hs=>by
  cases hx:f w.heap.size with
  |none=>rfl
  |some x=>exact (hlt hs hx).elim
 have up:w.fr.sub (w.alloc o).fr:=fun i x hx=>by
  show (w.heap.push o)[i]?=some x
  have hx:w.heap[i]?=some x:=hx;have:i<w.heap.size:=by
   rcases Nat.lt_or_ge i w.heap.size with q|q
   ·exact q
   ·simp [Array.getElem?_eq_none q] at hx
  rw [Array.getElem?_push_lt this];rw [Array.getElem?_eq_getElem this] at hx;exact hx
 have dn:∀ {f:Fr},f.sub w.fr→f.disj (Fr.one w.heap.size o):=fun {f} hs i=>by
  by_cases hi:i=w.heap.size
  ·left;rw [hi];exact hn hs
  ·right;simp [Fr.one,hi]
 refine ⟨a,b,c,(Fr.one w.heap.size o).add k,Fr.disj_add_right (dn s1) hd,Fr.sub_trans s1 up,Fr.add_sub ?_ (Fr.sub_trans s2 up),Sat.cons (Fr.disj_symm (dn s2)) ?_ y⟩
 ·intro i x hx
  simp only [Fr.one] at hx
  split at hx
  ·rename_i hi;subst hi;cases hx;show (w.heap.push o)[w.heap.size]?=some o;simp
  ·cases hx
 ·simp [blk,Fr.one]
theorem Holds.setBlock {w w' :World} {g:Gr} {η:List SProp} {b:Nat} {o o' :Obj} (h:Holds w g (blk b o::η))
  (hb:w'.heap[b]?=some o') (hne:∀ i,i≠b→w'.heap[i]?=w.heap[i]?) (h1:w'.os=w.os) (h2:w'.tape=w.tape) (h3:w'.output=w.output) (h4:w.drawn≤w'.drawn:=by exact Nat.le_refl _) :
  Holds w' g (blk b o' ::η):=by
 obtain ⟨p,q,r,k,hd,s1,s2,k1,k2,kd,t1,t2,x,y⟩:=h;have x' :k1 b=some o:=x;have gb:g.h b=none:=by
  rcases hd b with z|z
  ·exact z
  ·rw [t1 b o x'] at z;cases z
 have kb:k2 b=none:=by
  rcases kd b with z|z
  ·rw [x'] at z;cases z
  ·exact z
 have keep:∀ {f:Fr},f b=none→f.sub w.fr→f.sub w'.fr:=fun {f} hf hs i z hz=>by
  have:i≠b:=by rintro rfl;rw [hf] at hz;cases hz
  show w'.heap[i]?=_
  rw [hne i this];exact hs i z hz
 have od:∀ {f:Fr},f b=none→f.disj (Fr.one b o'):=fun {f} hf i=>by
  by_cases hi:i=b
  ·left;rw [hi];exact hf
  ·right;simp [Fr.one,hi]
 refine ⟨h1.trans p,h2.trans q,⟨h3.trans r.1,Nat.le_trans r.2 h4⟩,(Fr.one b o').add k2,Fr.disj_add_right (od gb) (Fr.disj_sub hd (Fr.sub_refl _) t2),keep gb s1,Fr.add_sub ?_ (keep kb (Fr.sub_trans t2 s2)),
  Sat.cons (Fr.disj_symm (od kb)) ?_ y⟩
 ·intro i z hz
  simp only [Fr.one] at hz
  split at hz
  ·rename_i hi;subst hi;cases hz;exact hb
  ·cases hz
 ·simp [blk,Fr.one]
theorem Holds.of_world (w:World):Holds w w.gr []:=⟨rfl,rfl,⟨rfl,Nat.le_refl _⟩,Fr.emp,Fr.disj_symm (Fr.emp_disj _),Fr.sub_refl _,Fr.emp_sub _,trivial⟩
theorem Holds.below {w w' :World} (h:Holds w' w.gr []):RowKit.Below w.heap.size w w' :=by
 obtain ⟨a,b,⟨c,_⟩,_,_,s1,_,_⟩:=h;have hb:∀ i,i<w.heap.size→w'.heap[i]?=w.heap[i]?:=fun i hi=>by
  have:=s1 i w.heap[i] (by simp [World.gr,World.fr,hi]);rw [Array.getElem?_eq_getElem hi];exact this
 refine ⟨a,b,c,?_,hb⟩
 rcases Nat.eq_zero_or_pos w.heap.size with hz|hz
 ·omega
 ·rcases Nat.lt_or_ge (w.heap.size - 1) w'.heap.size with q|q
  ·omega
  ·have:=hb (w.heap.size - 1) (by omega)
   rw [Array.getElem?_eq_none q,Array.getElem?_eq_getElem (by omega)] at this
   cases this
theorem zh {A:SProp} {η:List SProp}:Sel (A::η) A η:=.here
theorem zt {A B:SProp} {η ζ:List SProp} (h:Sel η A ζ):Sel (B::η) A (B::ζ):=.there h
theorem zx1 {α:Type} {a:α} {as bs:List α}:a::as++bs=a::(as++bs):=rfl
theorem zx2 {α:Type} {as:List α}:[]++as=as:=rfl
theorem zx3 {α:Type} {as:List α}:as++[]=as:=List.append_nil as
end Go.Sp
end
section
/- Texts of this proof. -/
namespace Go.Sp
def Wd (ro:Option Nat):Fence:={ fn:=fun _=>True,depth:=none,alive:=false,round:=ro }
theorem room_wd (ro:Option Nat) (n:Nat):(Wd ro).room n:=fun _ h=>by cases h
def Runs (ro:Option Nat) (P:Program) (todo:List Item) (Q:Exit→Act→World→Prop) (a:Act) (w:World):Prop :=
 ∀ (b:Frame) (cs:List Frame),b.roundOf=ro→(∃ fn,P.funcs[b.fn]?=some fn)→∃ e a' w',Q e a' w' ∧ArrivesIn (Machine.fenced P Fence.wide) P (lone (b.atR a todo) cs w) b [] cs e a' w'
section runs
variable {ro:Option Nat} {P:Program} {Q:Exit→Act→World→Prop} {a:Act} {w:World} {k:List Item}
theorem Runs.step {todo todo' :List Item} {a' :Act} {w' :World} (hs:∀ (b:Frame) (cs:List Frame),step P (lone (b.atR a todo) cs w)=.next (lone (b.atR a' todo') cs w'))
  (h:Runs ro P todo' Q a' w'):Runs ro P todo Q a w:=fun b cs hb hf =>
 let ⟨e,a',w',q,r⟩:=h b cs hb hf;⟨e,a',w',q,.of_steps (.one (fenced_wide P _) (hs b cs)) r⟩
theorem Runs.nil (h:Q .normal a w):Runs ro P [] Q a w:=fun _ _ _ _=>⟨.normal,a,w,h,StepsIn.refl _⟩
theorem Runs.ret (h:Q .ret a w):Runs ro P (.code .ret::k) Q a w:=fun _ _ _ _=>⟨.ret,a,w,h,fun hb=>⟨_,.one (fenced_wide P _) (stepR_ret hb)⟩,fun _=>⟨k,StepsIn.refl _⟩⟩
def QK (ro:Option Nat) (P:Program) (k:List Item) (Q:Exit→Act→World→Prop):Exit→Act→World→Prop
 |.normal,a,w=>Runs ro P k Q a w
 |.panic ch,a,w=>Q (.panic ch) a w
 |.outgrown,a,w=>Q .outgrown a w
 |_,_,_=>False
theorem Runs.ops {ops:Array Oper} {l:List Nat} (h:wpOpsIn (Wd ro) 0 P ops (QK ro P k Q) l a w):Runs ro P (.inRegion ops l::k) Q a w:=by
 intro b cs hb hf
 obtain ⟨e,a',w',hq,harr⟩:=wp_opsIn l a w h b k cs hb trivial (room_wd _ _);have harr:ArrivesIn (Machine.fenced P Fence.wide) P (lone (b.atR a (.inRegion ops l::k)) cs w) b k cs e a' w' :=harr
 cases e with
 |normal =>
  obtain ⟨e,a'',w'',q,r⟩:=hq b cs hb hf;exact ⟨e,a'',w'',q,.of_steps harr r⟩
 |panic ch=>exact ⟨_,a',w',hq,harr⟩
 |outgrown=>exact ⟨.outgrown,a',w',hq,harr⟩
 |exit _=>exact hq.elim
 |goto _=>exact hq.elim
 |ret=>exact hq.elim
theorem Runs.opsN {ops:Array Oper} {l:List Nat} (h:wpOps P ops (QK none P k Q) l a w):Runs none P (.inRegion ops l::k) Q a w:=by
 intro b cs hb hf
 obtain ⟨e,a',w',hq,harr⟩:=wp_ops l a w h b k cs;have harr:=(arrivesIn_iff (I:=Machine.fenced P Fence.wide) (fun _ _=>stepsIn_wide) hb).2 harr;rw [← Frame.atR_of_none hb] at harr
 cases e with
 |normal =>
  obtain ⟨e,a'',w'',q,r⟩:=hq b cs hb hf;exact ⟨e,a'',w'',q,.of_steps harr r⟩
 |panic ch=>exact ⟨_,a',w',hq,harr⟩
 |outgrown=>exact ⟨.outgrown,a',w',hq,harr⟩
 |exit _=>exact hq.elim
 |goto _=>exact hq.elim
 |ret=>exact hq.elim
def Lv (P:Program) (fn:Func) (tmps:Array Value) (R:Ending→World→Prop):List Deferred→FrameMode→World→Prop
 |[],u,w=>Leaves P fn tmps R [] u w
 |d::ds,u,w=>u≠.run∧((∃ r w',d.target=.collected r∧(Instr.takeDeferred r).run P w=.ok [] w' ∧Lv P fn tmps R ds u w') ∨
   ∃ fv cap f args,d.target=.fn fv cap∧(invoke d.target d.args).run P w=.ok (.enter f args) w ∧
   CallsD P f args u w fun
    |.returned _,u',w' =>Lv P fn tmps R ds (settle u') w'
    |.panicked chain,u',w' =>Lv P fn tmps R ds (raised u' chain) w'
    |.outgrown,_,w' =>R .outgrown w')
theorem Lv.of {fn:Func} {tmps:Array Value} {R:Ending→World→Prop}:∀ {ds:List Deferred} {u:FrameMode} {w:World},Leaves P fn tmps R ds u w→Lv P fn tmps R ds u w
 |[],_,_,h=>h
 |d::ds,u,w,h=>by
  obtain ⟨h1,fv,cap,f,args,h2,h3,h4⟩:=h;refine ⟨h1,.inr ⟨fv,cap,f,args,h2,h3,h4.mono fun e u' w' hR=>?_⟩⟩
  cases e with
  |returned v=>exact Lv.of hR
  |panicked ch=>exact Lv.of hR
  |outgrown=>exact hR
theorem lv_steps {fn:Func} {tmps:Array Value} {R:Ending→World→Prop}:∀ (ds:List Deferred) (u:FrameMode) (w:World) (fr:Frame)
  (cs:List Frame),fr.mode=u→fr.defers=ds→fr.tmps=tmps→P.funcs[fr.fn]?=some fn→fr.kind=.normal→Lv P fn tmps R ds u w →
  ∃ e w' fr',R e w' ∧Comes P (lone fr cs w) (lone fr' cs w') e∧fr'.fn=fr.fn∧fr'.leaving P w' e:=by
 intro ds
 induction ds with
 |nil=>exact fun u w fr cs hu hd ht hf hk h=>leaves_steps [] u w fr cs hu hd ht hf hk h
 |cons d ds ih =>
  intro u w fr cs hu hd ht hf hk h
  obtain ⟨hrun,h⟩:=h
  rcases h with ⟨r,w',htar,htake,hrest⟩|⟨fv,cap,f,args,htar,hinv,hcall⟩
  ·have h1:=step_collected (cs:=cs) (hu ▸ hrun) hd htar htake
   obtain ⟨e',w'',fr',hR',hs',hfn',hl'⟩:=ih u w' { fr with defers:=[]++ds } cs hu rfl ht hf hk hrest;exact ⟨e',w'',fr',hR',Comes.of_steps (.one h1) hs',hfn',hl'⟩
  ·have h1:=step_defer (cs:=cs) (hu ▸ hrun) hd htar hinv
   obtain ⟨e,u',w',frX,hR,hsteps,hkX,hgo⟩:=hcall { fr with defers:=ds } cs hu
   cases e with
   |returned v =>
    have h2:=step_going_returned (c:={ { fr with defers:=ds } with mode:=u' }) (cs:=cs) hkX hgo;obtain ⟨e',w'',fr',hR',hs',hfn',hl'⟩:=ih (settle u') w' { { { fr with defers:=ds } with mode:=u' } with mode:=settle u' } cs rfl rfl ht hf hk hR;exact ⟨e',w'',fr',hR',Comes.of_steps (.head h1 (Steps.trans hsteps (.one h2))) hs',hfn',hl'⟩
   |panicked chain =>
    have h2:=step_going_panicked (c:={ { fr with defers:=ds } with mode:=u' }) (cs:=cs) hgo;obtain ⟨e',w'',fr',hR',hs',hfn',hl'⟩:=ih (raised u' chain) w' { { { fr with defers:=ds } with mode:=u' } with mode:=raised u' chain } cs rfl rfl ht hf hk hR;exact ⟨e',w'',fr',hR',Comes.of_steps (.head h1 (Steps.trans hsteps (.one h2))) hs',hfn',hl'⟩
   |outgrown=>exact ⟨.outgrown,w',fr,hR,Outgrown.of_steps (.one h1) hsteps,rfl,trivial⟩
def Post (ro:Option Nat) (P:Program) (fn:Func) (R:Ending→World→Prop):Exit→Act→World→Prop
 |.normal,a,w=>match ro with|none=>Lv P fn a.tmps R a.defers .returning w|some l=>∃ v w',(Instr.endRound l none).run P w=.ok v w' ∧R (.returned v) w'
 |.ret,a,w=>match ro with|none=>Lv P fn a.tmps R a.defers .returning w|some l=>∃ v w',(Instr.endRound l (some .ret)).run P w=.ok v w' ∧R (.returned v) w'
 |.exit id,_,w=>match ro with|none=>False|some l=>∃ v w',(Instr.endRound l (some (.exit id))).run P w=.ok v w' ∧R (.returned v) w'
 |.goto _,_,_=>False
 |.panic ch,a,w=>match ro with|none=>Lv P fn a.tmps R a.defers (.panicking ch) w|some _=>a.defers=[]∧R (.panicked ch) w
 |.outgrown,_,w=>R .outgrown w
theorem Post.panic {fn:Func} {R:Ending→World→Prop} {ch:List PanicEntry} (hd:a.defers=[]) (h:R (.panicked ch) w):Post ro P fn R (.panic ch) a w:=by
 cases ro with
 |none=>show Lv P fn a.tmps R a.defers (.panicking ch) w;rw [hd];exact h
 |some l=>exact ⟨hd,h⟩
theorem calls_of_runs {f:FuncId} {fn:Func} {c:Code} {args:Array Value} {R:Ending→World→Prop}
  (hf:P.funcs[f]?=some fn) (hb:fn.body=some c)
  (h:Runs none P [.code c] (Post none P fn R) { tmps:=args++Array.replicate (fn.ntmps - args.size) undef,defers:=[] } w):Calls P f args w R:=by
 intro cs
 let b:Frame:={ (default:Frame) with fn:=f,kind:=.normal,roundOf:=none }
 have henter:Frame.enter P f args .normal =
   b.atR { tmps:=args++Array.replicate (fn.ntmps - args.size) undef,defers:=[] } [.code c]:=by
  simp [Frame.enter,Frame.atR,hf,hb,b]
 obtain ⟨e,a',w',hq,harr⟩:=h b cs rfl ⟨fn,hf⟩;rw [← henter] at harr
 cases e with
 |normal =>
  obtain ⟨e',w'',fr',hR,hs,hfn,hl⟩:=lv_steps a'.defers .returning w' { b.atR a' [] with mode:=.returning } cs rfl rfl rfl hf rfl hq;exact ⟨e',w'',fr',hR,Comes.of_steps (Steps.trans (StepsIn.steps harr) (.one (stepR_end rfl))) hs,hfn,hl⟩
 |ret =>
  obtain ⟨todo,hs₀⟩:=harr.1 rfl;obtain ⟨e',w'',fr',hR,hs,hfn,hl⟩:=lv_steps a'.defers .returning w' { b.atR a' todo with mode:=.returning } cs rfl rfl rfl hf rfl hq;exact ⟨e',w'',fr',hR,Comes.of_steps hs₀.steps hs,hfn,hl⟩
 |panic chain =>
  obtain ⟨todo,hs₀⟩:=harr;obtain ⟨e',w'',fr',hR,hs,hfn,hl⟩:=lv_steps a'.defers (.panicking chain) w' { b.atR a' todo with mode:=.panicking chain } cs rfl rfl rfl hf rfl hq;exact ⟨e',w'',fr',hR,Comes.of_steps hs₀.steps hs,hfn,hl⟩
 |exit id=>exact hq.elim
 |goto l=>exact hq.elim
 |outgrown=>exact ⟨.outgrown,w',b,hq,harr.resolve_left (by simp [b]),rfl,trivial⟩
end runs
def look:List (Nat × Value)→Nat→Option Value
 |[],_=>none
 |(s,v)::σ,t=>match Nat.beq s t with|true=>some v|false=>look σ t
def ev (σ:List (Nat × Value)):Operand→Option Value
 |.tmp t=>look σ t
 |.const v=>some v
 |.global g=>some (.pointer (some ⟨g,0,none⟩))
 |.func f=>some (.func (.func f) #[] #[])
def Sub (σ' σ:List (Nat × Value)):Prop:=∀ t v,look σ' t=some v→look σ t=some v
theorem Sub.nil {σ:List (Nat × Value)}:Sub [] σ:=fun _ _ h=>by cases h
theorem Sub.refl {σ:List (Nat × Value)}:Sub σ σ:=fun _ _ h=>h
theorem Sub.cons {σ σ' :List (Nat × Value)} {t:Nat} {v:Value} (h:look σ t=some v) (hs:Sub σ' σ):Sub ((t,v)::σ') σ:=fun s u hu=>by
 simp only [look] at hu
 split at hu
 ·rename_i hb;cases hu;rw [← Nat.eq_of_beq_eq_true hb];exact h
 ·exact hs s u hu
def Fits (a:Act) (n:Nat) (σ:List (Nat × Value)):Prop:=a.tmps.size=n∧∀ t v,look σ t=some v→a.tmps[t]?=some v
theorem Fits.sub {a:Act} {n:Nat} {σ σ' :List (Nat × Value)} (h:Fits a n σ) (hs:Sub σ' σ):Fits a n σ' :=⟨h.1,fun t v x=>h.2 t v (hs t v x)⟩
theorem Fits.eval {a:Act} {n:Nat} {σ:List (Nat × Value)} (h:Fits a n σ) {x:Operand} {v:Value} (hx:ev σ x=some v):a.eval x=v:=by
 cases x with
 |tmp t=>have:=h.2 t v hx;simp only [Act.eval,Array.getD_eq_getD_getElem?,this,Option.getD_some]
 |const u=>simpa [ev,Act.eval] using hx
 |global g=>simpa [ev,Act.eval] using hx
 |func f=>simpa [ev,Act.eval] using hx
theorem Fits.put {a:Act} {n d:Nat} {σ:List (Nat × Value)} {v:Value} (h:Fits a n σ) (hd:Nat.blt d n=true):Fits (a.put (some d) v) n ((d,v)::σ):=by
 have hd' :d<a.tmps.size:=by rw [h.1];exact of_decide_eq_true (by simpa [Nat.blt_eq] using hd)
 refine ⟨by simp [Act.put,h.1],fun t u hu=>?_⟩;simp only [look] at hu
 split at hu
 ·rename_i hb;cases hu;have:=Nat.eq_of_beq_eq_true hb;subst this
  simp [Act.put,Array.getElem?_setIfInBounds_self_of_lt hd']
 ·rename_i hb
  have hne:d≠t:=by rintro rfl;simp at hb
  have:=h.2 t u hu;simp only [Act.put,Array.getElem?_setIfInBounds_ne hne,this]
def Knows (σ:List (Nat × Value)) (ρ:Operand→Value):Prop:=∀ x v,ev σ x=some v→ρ x=v
theorem Fits.knows {a:Act} {n:Nat} {σ:List (Nat × Value)} (h:Fits a n σ):Knows σ a.eval:=fun _ _ hx=>h.eval hx
def Does (P:Program) (op:Op) (σ:List (Nat × Value)) (g:Gr) (η:List SProp) (v:Value) (η' :List SProp):Prop :=
 ∀ (o:Oper) (ρ:Operand→Value) (w:World),o.op=op→Knows σ ρ→Holds w g η→∃ w',(execOp ρ o).run P w=.ok (.value v) w' ∧Holds w' g η'
def DoesU (P:Program) (op:Op) (σ:List (Nat × Value)) (g:Gr) (η:List SProp) (η' :List SProp):Prop :=
 ∀ (o:Oper) (ρ:Operand→Value) (w:World),o.op=op→Knows σ ρ→Holds w g η→∃ w',(execOp ρ o).run P w=.ok .skip w' ∧Holds w' g η'
def DoesV (P:Program) (op:Op) (σ:List (Nat × Value)) (g:Gr) (η:List SProp) (η' :List SProp):Prop :=
 ∀ (o:Oper) (ρ:Operand→Value) (w:World),o.op=op→Knows σ ρ→Holds w g η→∃ w' u,(execOp ρ o).run P w=.ok u w' ∧(u=.skip∨∃ v,u=.value v)∧Holds w' g η'
theorem DoesU.v {P:Program} {op:Op} {σ:List (Nat × Value)} {g:Gr} {η η' :List SProp} (h:DoesU P op σ g η η'):DoesV P op σ g η η' :=fun o ρ w h1 h2 h3=>let ⟨w',a,b⟩:=h o ρ w h1 h2 h3;⟨w',.skip,a,.inl rfl,b⟩
def S (ro:Option Nat) (P:Program) (fn:Func) (n:Nat) (R:Ending→World→Prop) (todo:List Item) (σ:List (Nat × Value)) (D:List Deferred) (g:Gr) (η:List SProp):Prop :=
 ∀ a w,Fits a n σ→a.defers=D→Holds w g η→Runs ro P todo (Post ro P fn R) a w
def O (ro:Option Nat) (P:Program) (fn:Func) (n:Nat) (R:Ending→World→Prop) (ops:Array Oper) (l:List Nat) (k:List Item) (σ:List (Nat × Value)) (D:List Deferred) (g:Gr) (η:List SProp):Prop :=
 ∀ a w,Fits a n σ→a.defers=D→Holds w g η→wpOpsIn (Wd ro) 0 P ops (QK ro P k (Post ro P fn R)) l a w
section rules
variable {ro:Option Nat} {P:Program} {fn:Func} {n:Nat} {R:Ending→World→Prop} {k:List Item} {σ σ' :List (Nat × Value)} {D:List Deferred} {g:Gr} {η η' :List SProp}
theorem S.weaken {todo:List Item} (hs:Sub σ' σ) (h:S ro P fn n R todo σ' D g η):S ro P fn n R todo σ D g η:=fun a w hf hd hw=>h a w (hf.sub hs) hd hw
theorem S.perm {todo:List Item} (p:η.Perm η') (h:S ro P fn n R todo σ D g η'):S ro P fn n R todo σ D g η:=fun a w hf hd hw=>h a w hf hd (hw.perm p)
theorem S.sel {todo:List Item} {A:SProp} {ζ:List SProp} (s:Sel η A ζ) (h:S ro P fn n R todo σ D g (A::ζ)):S ro P fn n R todo σ D g η:=S.perm s.perm h
theorem S.drop {todo:List Item} {A:SProp} (h:S ro P fn n R todo σ D g η):S ro P fn n R todo σ D g (A::η):=fun a w hf hd hw=>h a w hf hd hw.drop
theorem S.imp {todo:List Item} (hs:∀ k,Sat η k→Sat η' k) (h:S ro P fn n R todo σ D g η'):S ro P fn n R todo σ D g η:=fun a w hf hd hw=>h a w hf hd (hw.imp hs)
theorem S.entail {todo:List Item} {A:SProp} {ζ:List SProp} (hs:∀ k,A k→Sat ζ k) (h:S ro P fn n R todo σ D g (ζ++η)):S ro P fn n R todo σ D g (A::η) :=
 fun a w hf hd hw=>h a w hf hd (hw.entail hs)
theorem S.exi {todo:List Item} {α:Type} {A:α→SProp} (h:∀ x,S ro P fn n R todo σ D g (A x::η)):S ro P fn n R todo σ D g ((fun k=>∃ x,A x k)::η) :=
 fun a w hf hd hw=>by
  obtain ⟨p,q,r,k,d,s1,s2,k1,k2,kd,t1,t2,⟨x,hx⟩,y⟩:=hw;exact h x a w hf hd ⟨p,q,r,k,d,s1,s2,k1,k2,kd,t1,t2,hx,y⟩
theorem S.freeze {todo:List Item} {A:SProp} (h:∀ k:Fr,A k→g.h.disj k→S ro P fn n R todo σ D (g.add k) η):S ro P fn n R todo σ D g (A::η) :=
 fun a w hf hd hw=>by
  obtain ⟨k,hk,hdj,hw'⟩:=hw.freeze;exact h k hk hdj a w hf hd hw'
theorem S.thaw {todo:List Item} {A:SProp} {k:Fr} (hk:A k) (hdj:g.h.disj k) (h:S ro P fn n R todo σ D g (A::η)):S ro P fn n R todo σ D (g.add k) η :=
 fun a w hf hd hw=>h a w hf hd (hw.thaw hk hdj)
theorem S.seq {x y:Code} (h:S ro P fn n R (.code x::.code y::k) σ D g η):S ro P fn n R (.code (.seq x y)::k) σ D g η :=
 fun a w hf hd hw=>.step (fun _ _=>stepR_seq) (h a w hf hd hw)
theorem S.skip (h:S ro P fn n R k σ D g η):S ro P fn n R (.code .skip::k) σ D g η:=fun a w hf hd hw=>.step (fun _ _=>stepR_skip) (h a w hf hd hw)
theorem S.inBlock {id:Nat} (h:S ro P fn n R k σ D g η):S ro P fn n R (.inBlock id::k) σ D g η:=fun a w hf hd hw=>.step (fun _ _=>stepR_inBlock) (h a w hf hd hw)
theorem S.block {id:Nat} {c:Code} (h:S ro P fn n R (.code c::.inBlock id::k) σ D g η):S ro P fn n R (.code (.block id c)::k) σ D g η :=
 fun a w hf hd hw=>.step (fun _ _=>stepR_block) (h a w hf hd hw)
theorem S.exit {id:Nat} {k' :List Item} (hk:exitTo id k=some k') (h:S ro P fn n R k' σ D g η):S ro P fn n R (.code (.exit id)::k) σ D g η :=
 fun a w hf hd hw=>.step (fun _ _=>stepR_exit hk) (h a w hf hd hw)
theorem S.condT {c:Operand} {x y:Code} (hc:ev σ c=some (.bool true)) (h:S ro P fn n R (.code x::k) σ D g η):S ro P fn n R (.code (.cond c x y)::k) σ D g η :=
 fun a w hf hd hw=>.step (fun _ _=>stepR_cond (hf.eval hc)) (h a w hf hd hw)
theorem S.condF {c:Operand} {x y:Code} (hc:ev σ c=some (.bool false)) (h:S ro P fn n R (.code y::k) σ D g η):S ro P fn n R (.code (.cond c x y)::k) σ D g η :=
 fun a w hf hd hw=>.step (fun _ _=>stepR_cond (hf.eval hc)) (h a w hf hd hw)
theorem S.condB {c:Operand} {x y:Code} {b:Bool} (hc:ev σ c=some (.bool b)) (ht:b=true→S ro P fn n R (.code x::k) σ D g η) (hf:b=false→S ro P fn n R (.code y::k) σ D g η) :
  S ro P fn n R (.code (.cond c x y)::k) σ D g η:=by
 cases b
 ·exact S.condF hc (hf rfl)
 ·exact S.condT hc (ht rfl)
theorem S.condD {c:Operand} {x y:Code} {p:Prop} [Decidable p] (hc:ev σ c=some (.bool (decide p))) (ht:p→S ro P fn n R (.code x::k) σ D g η) (hf:¬p→S ro P fn n R (.code y::k) σ D g η) :
  S ro P fn n R (.code (.cond c x y)::k) σ D g η :=
 S.condB hc (fun h=>ht (of_decide_eq_true h)) (fun h=>hf (of_decide_eq_false h))
theorem S.loop {ι:Type} {c:Code} (φ:ι→Prop) (σs:ι→List (Nat × Value)) (ηs:ι→List SProp) (μ:ι→Nat) (x₀:ι) (h₀:φ x₀) (hσ:Sub (σs x₀) σ) (hη:η=ηs x₀)
  (round:∀ x,φ x→(∀ y,φ y→μ y<μ x→S ro P fn n R (.inLoop c::k) (σs y) D g (ηs y))→S ro P fn n R (.code c::.inLoop c::k) (σs x) D g (ηs x)) :
  S ro P fn n R (.code (.loop c)::k) σ D g η:=by
 have key:∀ m x,μ x=m→φ x→S ro P fn n R (.code c::.inLoop c::k) (σs x) D g (ηs x):=by
  intro m
  induction m using Nat.strongRecOn with
  |_ m ih =>
   intro x hm hx
   refine round x hx fun y hy hlt a w hf hd hw=>.step (fun _ _=>stepR_inLoop) (ih (μ y) (hm ▸ hlt) y rfl hy a w hf hd hw)
 subst hη;exact fun a w hf hd hw=>.step (fun _ _=>stepR_loop) (key _ x₀ rfl h₀ a w (hf.sub hσ) hd hw)
theorem S.region {id:Nat} {ops:Array Oper} {l:List Nat} (hl:List.range ops.size=l) (h:O ro P fn n R ops l k σ D g η):S ro P fn n R (.code (.region id ops false)::k) σ D g η :=
 fun a w hf hd hw=>.step (fun _ _=>stepR_region) (.ops (hl ▸ h a w hf hd hw))
theorem O.nil {ops:Array Oper} (h:S ro P fn n R k σ D g η):O ro P fn n R ops [] k σ D g η:=fun a w hf hd hw=>h a w hf hd hw
theorem O.weaken {ops:Array Oper} {l:List Nat} (hs:Sub σ' σ) (h:O ro P fn n R ops l k σ' D g η):O ro P fn n R ops l k σ D g η:=fun a w hf hd hw=>h a w (hf.sub hs) hd hw
def opAt (ops:Array Oper) (i n:Nat):Option (Nat × Op) :=
 match ops[i]? with
 |some ⟨some d,op,_,_,_,none⟩=>match Nat.blt d n with|true=>some (d,op)|false=>none
 |_=>none
def opAtU (ops:Array Oper) (i:Nat):Option Op :=
 match ops[i]? with
 |some ⟨none,op,_,_,_,none⟩=>some op
 |_=>none
def opAtG (ops:Array Oper) (i n:Nat):Option (Nat × Op × Nat × Bool) :=
 match ops[i]? with
 |some ⟨some d,op,_,_,_,some (j,want)⟩ =>
  match Nat.blt d n,ops[j]? with
  |true,some o=>match o.dst with|some t=>some (d,op,t,want)|none=>none
  |_,_=>none
 |_=>none
theorem opAt_spec {ops:Array Oper} {i n d:Nat} {op:Op} (h:opAt ops i n=some (d,op)) :
  ∃ o,ops[i]?=some o∧o.dst=some d∧o.op=op∧o.guard=none∧Nat.blt d n=true:=by
 unfold opAt at h
 split at h
 ·rename_i d' op' _ _ _ ho
  split at h
  ·rename_i hb;cases h;exact ⟨_,ho,rfl,rfl,rfl,hb⟩
  ·cases h
 ·cases h
theorem opAtU_spec {ops:Array Oper} {i:Nat} {op:Op} (h:opAtU ops i=some op):∃ o,ops[i]?=some o∧o.dst=none∧o.op=op∧o.guard=none:=by
 unfold opAtU at h
 split at h
 ·rename_i op' _ _ _ ho;cases h;exact ⟨_,ho,rfl,rfl,rfl⟩
 ·cases h
theorem opAtG_spec {ops:Array Oper} {i n d t:Nat} {op:Op} {want:Bool} (h:opAtG ops i n=some (d,op,t,want)) :
  ∃ o j oj,ops[i]?=some o∧o.dst=some d∧o.op=op∧o.guard=some (j,want)∧ops[j]?=some oj∧oj.dst=some t∧Nat.blt d n=true:=by
 unfold opAtG at h
 split at h
 ·rename_i d' op' _ _ _ j want' ho
  split at h
  ·rename_i oj hb hj
   split at h
   ·rename_i t' ht;cases h;exact ⟨_,_,_,ho,rfl,rfl,rfl,hj,ht,hb⟩
   ·cases h
  ·cases h
 ·cases h
theorem yielded_of {ops:Array Oper} {a:Act} {σ:List (Nat × Value)} {n j t:Nat} {oj:Oper} {b:Bool} (hf:Fits a n σ) (hj:ops[j]?=some oj) (ht:oj.dst=some t) (hl:look σ t=some (.bool b)) :
  yielded ops a.tmps j=some b:=by
 simp [yielded,hj,ht,hf.2 t _ hl]
inductive Fires (ops:Array Oper) (i n:Nat) (σ:List (Nat × Value)):Nat→Op→Prop
 |p {d:Nat} {op:Op} (h:opAt ops i n=some (d,op)):Fires ops i n σ d op
 |g {d t:Nat} {op:Op} {b:Bool} (h:opAtG ops i n=some (d,op,t,b)) (hl:look σ t=some (.bool b)):Fires ops i n σ d op
theorem Fires.spec {ops:Array Oper} {i n d:Nat} {σ:List (Nat × Value)} {op:Op} (h:Fires ops i n σ d op) :
  ∃ o,ops[i]?=some o∧o.dst=some d∧o.op=op∧(∀ a,Fits a n σ→Region.wanted o (yielded ops a.tmps)=true)∧Nat.blt d n=true:=by
 cases h with
 |p h =>
  obtain ⟨o,a,b,c,d,e⟩:=opAt_spec h;exact ⟨o,a,b,c,fun _ _=>by simp [Region.wanted,d],e⟩
 |g h hl =>
  obtain ⟨o,j,oj,hi,hdst,hop,hg,hj,ht,hb⟩:=opAtG_spec h;exact ⟨o,hi,hdst,hop,fun a hf=>by simp [Region.wanted,hg,yielded_of hf hj ht hl],hb⟩
theorem notDefer_value {P:Program} {o:Oper} {ρ:Operand→Value} {w w' :World} {v:Value} (h:(execOp ρ o).run P w=.ok (.value v) w'):∀ c,o.op≠.defer c:=fun c hc=>by
 simp only [execOp,hc,Sem.run_bind] at h
 cases hr:(resolve ρ c o.type).run P w<;>simp [hr,Result.andThen] at h
theorem notDefer_skip {P:Program} {o:Oper} {ρ:Operand→Value} {w w' :World} (h:(execOp ρ o).run P w=.ok .skip w'):∀ c,o.op≠.defer c:=fun c hc=>by
 simp only [execOp,hc,Sem.run_bind] at h
 cases hr:(resolve ρ c o.type).run P w<;>simp [hr,Result.andThen] at h
theorem O.fire {ro:Option Nat} {P:Program} {ops:Array Oper} {i:Nat} {o:Oper} {l:List Nat} {a:Act} {w:World} {Q:Exit→Act→World→Prop} {r:Result Next} (hi:ops[i]?=some o) (hg:Region.wanted o (yielded ops a.tmps)=true)
  (hnd:∀ c,o.op≠.defer c) (hr:(execOp a.eval o).run P w=r) (h:o.uponIn (Wd ro) 0 P a (wpOpsIn (Wd ro) 0 P ops Q l) Q r):wpOpsIn (Wd ro) 0 P ops Q (i::l) a w:=by
 simp only [wpOpsIn,hi,hg,if_true];exact ⟨fun _ _=>trivial,by rw [Oper.semAt_eq _ _ _ hnd,hr];exact h⟩
theorem calls_wd {ro:Option Nat} {P:Program} {f:FuncId} {args:Array Value} {w:World} {K:Ending→World→Prop} (h:Calls P f args w K):((Wd ro).depth.isSome=true→1≤0)∧CallsIn (Wd ro) (0 - 1) P f args w K :=
 ⟨fun h=>(by cases h),(callsIn_wide (n:=0)).2 h⟩
theorem O.op {ops:Array Oper} {i d:Nat} {l:List Nat} {op:Op} {v:Value} (ho:Fires ops i n σ d op) (hdo:Does P op σ g η v η')
  (h:O ro P fn n R ops l k ((d,v)::σ) D g η'):O ro P fn n R ops (i::l) k σ D g η:=by
 intro a w hf hd hw
 obtain ⟨o,hi,hdst,hop,hg,hb⟩:=ho.spec;obtain ⟨w',hrun,hw'⟩:=hdo o a.eval w hop hf.knows hw;refine O.fire hi (hg a hf) (notDefer_value hrun) hrun ?_;rw [Oper.uponIn_value,hdst];exact h _ _ (hf.put hb) hd hw'
theorem O.opU {ops:Array Oper} {i:Nat} {l:List Nat} {op:Op} (ho:opAtU ops i=some op) (hdo:DoesU P op σ g η η')
  (h:O ro P fn n R ops l k σ D g η'):O ro P fn n R ops (i::l) k σ D g η:=by
 intro a w hf hd hw
 obtain ⟨o,hi,hdst,hop,hg⟩:=opAtU_spec ho;obtain ⟨w',hrun,hw'⟩:=hdo o a.eval w hop hf.knows hw;refine O.fire hi (by simp [Region.wanted,hg]) (notDefer_skip hrun) hrun ?_;rw [Oper.uponIn_skip,hdst];exact h _ _ hf hd hw'
def notB (b:Bool):Value→Bool|.bool c=>c !=b|_=>true
theorem O.opN {ops:Array Oper} {i d t:Nat} {l:List Nat} {op:Op} {b:Bool} {v:Value} (ho:opAtG ops i n=some (d,op,t,b)) (hl:look σ t=some v) (hv:notB b v=true)
  (h:O ro P fn n R ops l k ((d,undef)::σ) D g η):O ro P fn n R ops (i::l) k σ D g η:=by
 intro a w hf hd hw
 obtain ⟨o,j,oj,hi,hdst,hop,hg,hj,ht,hb⟩:=opAtG_spec ho;have hgw:Region.wanted o (yielded ops a.tmps)=false:=by
  have:=hf.2 t _ hl
  cases v<;>simp [Region.wanted,hg,yielded,hj,ht,this]
  cases b<;>simp_all [notB]
 simp only [wpOpsIn,hi,hgw,Bool.false_eq_true,if_false];rw [hdst];exact ⟨fun _ _=>trivial,h _ _ (hf.put hb) hd hw⟩
theorem O.caseB {ops:Array Oper} {l:List Nat} {b:Bool} (t:Nat) (hl:look σ t=some (.bool b)) (ht:b=true→O ro P fn n R ops l k ((t,.bool true)::σ) D g η)
  (hf:b=false→O ro P fn n R ops l k ((t,.bool false)::σ) D g η):O ro P fn n R ops l k σ D g η:=by
 cases b
 ·exact O.weaken (Sub.cons hl Sub.refl) (hf rfl)
 ·exact O.weaken (Sub.cons hl Sub.refl) (ht rfl)
theorem O.caseD {ops:Array Oper} {l:List Nat} {p:Prop} [Decidable p] (t:Nat) (hl:look σ t=some (.bool (decide p))) (ht:p→O ro P fn n R ops l k ((t,.bool true)::σ) D g η)
  (hf:¬p→O ro P fn n R ops l k ((t,.bool false)::σ) D g η):O ro P fn n R ops l k σ D g η :=
 O.caseB t hl (fun h=>ht (of_decide_eq_true h)) (fun h=>hf (of_decide_eq_false h))
theorem results_one {t:Tmp} {v:Value} {a:Act} {w:World} (hr:fn.results=#[.tmp t]) (hf:Fits a n σ) (hl:look σ t=some v):(results fn a.tmps).run P w=.ok v w:=by
 have:=hf.2 t v hl
 simp [results,hr,Array.getD_eq_getD_getElem?,this]
theorem S.ret {t:Tmp} {v:Value} (hr:fn.results=#[.tmp t]) (hl:look σ t=some v) (h:∀ w,Holds w g η→R (.returned v) w):S none P fn n R (.code .ret::k) σ [] g η:=by
 intro a w hf hd hw
 refine .ret ?_;simp only [Post,hd,Lv,Leaves];exact ⟨v,results_one hr hf hl,h w hw⟩
theorem S.end0 (hr:fn.results=#[]) (h:∀ w,Holds w g η→R (.returned (.tuple #[])) w):S none P fn n R [] σ [] g η:=by
 intro a w hf hd hw
 refine .nil ?_;simp only [Post,hd,Lv,Leaves];exact ⟨.tuple #[],by simp [results,hr],h w hw⟩
theorem S.ret2 {t s:Tmp} {v u:Value} (hr:fn.results=#[.tmp t,.tmp s]) (hl:look σ t=some v) (hl' :look σ s=some u) (h:∀ w,Holds w g η→R (.returned (.tuple #[v,u])) w) :
  S none P fn n R (.code .ret::k) σ [] g η:=by
 intro a w hf hd hw
 refine .ret ?_;simp only [Post,hd,Lv,Leaves];refine ⟨.tuple #[v,u],?_,h w hw⟩
 simp [results,hr,Array.getD_eq_getD_getElem?,hf.2 t v hl,hf.2 s u hl']
end rules
def Con (P:Program) (f:FuncId) (args:Array Value) (r:Fr) (η:List SProp) (Post:Ending→List SProp→Prop):Prop :=
 ∀ g:Gr,r.sub g.h→∀ w,Holds w g η→Calls P f args w fun e w' =>∃ η',Post e η' ∧Holds w' g η'
def Ret (K:Value→List SProp→Prop):Ending→List SProp→Prop
 |.returned v,η=>K v η
 |_,_=>False
def RetP (K:Value→List SProp→Prop) (X:List PanicEntry→List SProp→Prop):Ending→List SProp→Prop
 |.returned v,η=>K v η
 |.panicked ch,η=>X ch η
 |.outgrown,_=>False
section con
variable {ro:Option Nat} {P:Program} {fn:Func} {n:Nat} {f:FuncId} {args:Array Value} {r:Fr} {η:List SProp} {Post:Ending→List SProp→Prop}
def slots:List Value→Nat→List (Nat × Value)
 |[],_=>[]
 |v::vs,i=>(i,v)::slots vs (i+1)
theorem look_slots:∀ (vs:List Value) (i t:Nat) (v:Value),look (slots vs i) t=some v→i≤t∧vs[t - i]?=some v
 |[],_,_,_,h=>by cases h
 |u::vs,i,t,v,h=>by
  simp only [slots,look] at h
  split at h
  ·rename_i hb;cases h;have:=Nat.eq_of_beq_eq_true hb;subst this;simp
  ·rename_i hb
   have hne:i≠t:=by rintro rfl;simp at hb
   obtain ⟨h1,h2⟩:=look_slots vs (i+1) t v h;have:t - i=(t - (i+1))+1:=by omega
   exact ⟨by omega,by rw [this];simpa using h2⟩
theorem Con.of {c:Code} (vs:List Value) (ha:args=vs.toArray) (hf:P.funcs[f]?=some fn) (hb:fn.body=some c) (hn:fn.ntmps=n) (hle:Nat.ble vs.length n=true)
  (h:∀ g:Gr,r.sub g.h→∀ R:Ending→World→Prop,(∀ e η' w',Post e η' →Holds w' g η' →R e w')→S none P fn n R [.code c] (slots vs 0) [] g η):Con P f args r η Post:=by
 intro g hr w hw
 subst ha hn;refine calls_of_runs hf hb (h g hr _ (fun e η' w' hp hh=>⟨η',hp,hh⟩) _ w ⟨?_,?_⟩ rfl hw)
 ·have:vs.length≤fn.ntmps:=Nat.le_of_ble_eq_true hle
  simp;omega
 ·intro t v hl
  obtain ⟨_,h2⟩:=look_slots vs 0 t v hl;simp only [Nat.sub_zero] at h2;have:t<vs.length:=by
   rcases Nat.lt_or_ge t vs.length with q|q
   ·exact q
   ·rw [List.getElem?_eq_none q] at h2;cases h2
  rw [Array.getElem?_append_left (by simpa using this)]
  simpa using h2
theorem Con.mono {Post' :Ending→List SProp→Prop} (h:Con P f args r η Post) (hp:∀ e η',Post e η' →Post' e η'):Con P f args r η Post' :=
 fun g hr w hw=>(h g hr w hw).mono fun _ _ ⟨η',x,y⟩=>⟨η',hp _ _ x,y⟩
theorem Con.sub {r' :Fr} (h:Con P f args r η Post) (hs:r.sub r'):Con P f args r' η Post:=fun g hr w hw=>h g (Fr.sub_trans hs hr) w hw
theorem Con.frame {ζ:List SProp} (h:Con P f args r η Post):Con P f args r (η++ζ) fun e η' =>∃ η₁,Post e η₁∧η' =η₁++ζ :=
 fun g hr w hw=>by
  obtain ⟨k,hk,hd,hw'⟩:=hw.freezeAll;exact (h (g.add k) (Fr.sub_trans hr (Fr.sub_add_left _ _)) w hw').mono fun _ _ ⟨η',x,y⟩=>⟨η' ++ζ,⟨η',x,rfl⟩,y.thawAll hk hd⟩
end con
def callable (P:Program) (f:FuncId):Bool :=
 match P.funcs[f]? with
 | some fn => fn.name != "runtime.NumGoroutine" && fn.body.isSome
 |none=>false
def evs (σ:List (Nat × Value)):List Operand→Option (List Value)
 |[]=>some []
 |x::xs=>match ev σ x,evs σ xs with|some v,some vs=>some (v::vs)|_,_=>none
theorem evs_spec {σ:List (Nat × Value)} {ρ:Operand→Value} (hk:Knows σ ρ):∀ {xs:List Operand} {vs:List Value},evs σ xs=some vs→xs.map ρ=vs
 |[],_,h=>by cases h;rfl
 |x::xs,vs,h=>by
  simp only [evs] at h
  split at h
  ·rename_i v us hv hus;cases h;simp [hk x v hv,evs_spec hk hus]
  ·cases h
theorem run_callFunc {P:Program} {f:FuncId} (hc:callable P f=true) (args:Array Value) (w:World):(callFunc f args).run P w=.ok (.enter f args) w:=by
 unfold callable at hc
 split at hc
 ·rename_i fn hf
  simp only [Bool.and_eq_true,bne_iff_ne,ne_eq] at hc;have h2:fn.body≠none:=by intro hb;rw [hb] at hc;simp at hc
  simp [callFunc,hf,hc.1,h2]
 ·cases hc
theorem run_call {P:Program} {f:FuncId} {first cap:Array Value} {ρ:Operand→Value} {o:Oper} {x:Operand} {xs:Array Operand} {ts:Array TypeId} (ho:o.op=.call ⟨.value x,xs,ts⟩)
  (hx:ρ x=.func (.func f) first cap) (hc:callable P f=true) (w:World):(execOp ρ o).run P w=.ok (.enter f (first++xs.map ρ++cap)) w:=by
 simp [execOp,ho,resolve,hx,Deferred.ofValue,invoke,run_callFunc hc]
section calls
variable {ro:Option Nat} {P:Program} {fn:Func} {n:Nat} {R:Ending→World→Prop} {k:List Item} {σ:List (Nat × Value)} {D:List Deferred} {g:Gr} {η ζ:List SProp}
 {ops:Array Oper} {i d:Nat} {l:List Nat} {f:FuncId} {x:Operand} {xs:Array Operand} {ts:Array TypeId} {vals:List Value} {K:Value→List SProp→Prop}
theorem O.call {first cap:Array Value} (ho:Fires ops i n σ d (.call ⟨.value x,xs,ts⟩)) (hx:ev σ x=some (.func (.func f) first cap)) (hc:callable P f=true)
  (hv:evs σ xs.toList=some vals) {args:Array Value} (hargs:first++vals.toArray++cap=args) (con:Con P f args g.h η (Ret K))
  (h:∀ v η',K v η' →O ro P fn n R ops l k ((d,v)::σ) D g (η' ++ζ)):O ro P fn n R ops (i::l) k σ D g (η++ζ):=by
 intro a w hf hd hw
 obtain ⟨o,hi,hdst,hop,hg,hb⟩:=ho.spec;have hm:xs.map a.eval=vals.toArray:=by
  rw [← evs_spec hf.knows hv,← Array.toList_map]
 refine O.fire hi (hg a hf) (by rw [hop];intro c hc;cases hc) (run_call hop (hf.knows x _ hx) hc w) ?_;rw [Oper.uponIn_enter,hm,hargs];refine calls_wd ?_;refine (con.frame (ζ:=ζ) g (Fr.sub_refl _) w hw).mono fun e w' hh=>?_;obtain ⟨η',⟨η₁,hp,rfl⟩,hw'⟩:=hh
 cases e with
 |returned v =>
  show wpOpsIn (Wd ro) 0 P ops _ l (a.put o.dst v) w'
  rw [hdst];exact h v η₁ hp _ _ (hf.put hb) hd hw'
 |panicked _=>exact hp.elim
 |outgrown=>exact hp.elim
theorem O.callP {first cap:Array Value} {X:List PanicEntry→List SProp→Prop} (ho:Fires ops i n σ d (.call ⟨.value x,xs,ts⟩)) (hx:ev σ x=some (.func (.func f) first cap)) (hc:callable P f=true)
  (hv:evs σ xs.toList=some vals) {args:Array Value} (hargs:first++vals.toArray++cap=args) (con:Con P f args g.h η (RetP K X))
  (hp:∀ ch η' w,X ch η' →Holds w g (η' ++ζ)→R (.panicked ch) w)
  (h:∀ v η',K v η' →O ro P fn n R ops l k ((d,v)::σ) [] g (η' ++ζ)):O ro P fn n R ops (i::l) k σ [] g (η++ζ):=by
 intro a w hf hd hw
 obtain ⟨o,hi,hdst,hop,hg,hb⟩:=ho.spec;have hm:xs.map a.eval=vals.toArray:=by
  rw [← evs_spec hf.knows hv,← Array.toList_map]
 refine O.fire hi (hg a hf) (by rw [hop];intro c hc;cases hc) (run_call hop (hf.knows x _ hx) hc w) ?_;rw [Oper.uponIn_enter,hm,hargs];refine calls_wd ?_;refine (con.frame (ζ:=ζ) g (Fr.sub_refl _) w hw).mono fun e w' hh=>?_;obtain ⟨η',⟨η₁,hq,rfl⟩,hw'⟩:=hh
 cases e with
 |returned v =>
  show wpOpsIn (Wd ro) 0 P ops _ l (a.put o.dst v) w'
  rw [hdst];exact h v η₁ hq _ _ (hf.put hb) hd hw'
 |panicked ch =>
  exact Post.panic hd (hp ch η₁ w' hq hw')
 |outgrown=>exact hq.elim
end calls
end Go.Sp
end
end
section
/- Texts of this proof, one behind the other. -/
section
/- Texts of this proof, one behind the other. -/
section
/- Texts of this proof. -/
namespace Go.Sp
def Fr.cell (h:Fr) (a:Addr):Option Value :=
 match h a.block with
 |some (.cells c _ _)=>if a.spot.isSome then none else c[a.off]?
 |_=>none
theorem Fr.cell_mono {h k:Fr} (s:h.sub k) {a:Addr} {v:Value} (x:h.cell a=some v):k.cell a=some v:=by
 unfold Fr.cell at *
 split at x
 ·rename_i c t f hb;rw [s _ _ hb];exact x
 ·cases x
def flat (P:Program) (t:TypeId):Bool :=
 match P.underlying t with
 |some (.struct _)|some (.array ..)=>false
 |some _=>true
 |none=>false
theorem run_isAgg_flat {P:Program} {t:TypeId} (h:flat P t=true) (w:World):(isAgg t).run P w=.ok false w:=by
 unfold flat at h
 split at h
 ·cases h
 ·cases h
 ·rename_i d h1 h2 hd
  rw [isAgg,Sem.run_bind,run_underlying hd]
  cases d<;>first|rfl|exact (h1 _ rfl).elim|exact (h2 _ _ rfl).elim
 ·cases h
section
variable {P:Program} {σ:List (Nat × Value)} {g:Gr} {η:List SProp}
theorem Does.run {op:Op} {v:Value} (h:∀ (o:Oper) (ρ:Operand→Value) (w:World),o.op=op→Knows σ ρ→(execOp ρ o).run P w=.ok (.value v) w):Does P op σ g η v η :=
 fun o ρ w ho hk hw=>⟨w,h o ρ w ho hk,hw⟩
theorem Does.mv {x:Operand} {v:Value} (hx:ev σ x=some v):Does P (.move x) σ g η v η:=.run fun o ρ w ho hk=>by simp [execOp,ho,hk x v hx]
theorem Does.as {x:Operand} {v:Value} (hx:ev σ x=some v):Does P (.assign x) σ g η v η:=.run fun o ρ w ho hk=>by simp [execOp,ho,hk x v hx]
theorem Does.pickT {c x y:Operand} {v:Value} (hc:ev σ c=some (.bool true)) (hx:ev σ x=some v):Does P (.pick c x y) σ g η v η :=
 .run fun o ρ w ho hk=>by simp [execOp,ho,hk x v hx,hk c _ hc,asBool]
theorem Does.pickF {c x y:Operand} {v:Value} (hc:ev σ c=some (.bool false)) (hx:ev σ y=some v):Does P (.pick c x y) σ g η v η :=
 .run fun o ρ w ho hk=>by simp [execOp,ho,hk y v hx,hk c _ hc,asBool]
theorem Does.int2 {op:BinOp} {t u:TypeId} {x y:Operand} {j:IntKind} {a b:Int} {v:Value} (hx:ev σ x=some (.int j a)) (hy:ev σ y=some (.int j b))
  (h:∀ w,(Go.binOp op t (.int j a) (.int j b)).run P w=.ok v w):Does P (.binOp op t x y u) σ g η v η :=
 .run fun o ρ w ho hk=>by
  have:=h w
  simp [execOp,ho,hk x _ hx,hk y _ hy,eqGuard,this]
theorem Does.add {t u:TypeId} {x y:Operand} {j:IntKind} {a b:Int} (hx:ev σ x=some (.int j a)) (hy:ev σ y=some (.int j b)) (hw:j.wrap (a+b)=a+b) :
  Does P (.binOp .add t x y u) σ g η (.int j (a+b)) η:=.int2 hx hy fun w=>by simp [Go.binOp,Op.intArith,hw]
theorem Does.sub {t u:TypeId} {x y:Operand} {j:IntKind} {a b:Int} (hx:ev σ x=some (.int j a)) (hy:ev σ y=some (.int j b)) (hw:j.wrap (a - b)=a - b) :
  Does P (.binOp .sub t x y u) σ g η (.int j (a - b)) η:=.int2 hx hy fun w=>by simp [Go.binOp,Op.intArith,hw]
theorem Does.mul {t u:TypeId} {x y:Operand} {j:IntKind} {a b:Int} (hx:ev σ x=some (.int j a)) (hy:ev σ y=some (.int j b)) (hw:j.wrap (a*b)=a*b) :
  Does P (.binOp .mul t x y u) σ g η (.int j (a*b)) η:=.int2 hx hy fun w=>by simp [Go.binOp,Op.intArith,hw]
theorem Does.addW {t u:TypeId} {x y:Operand} {j:IntKind} {a b:Int} (hx:ev σ x=some (.int j a)) (hy:ev σ y=some (.int j b)) :
  Does P (.binOp .add t x y u) σ g η (.int j (j.wrap (a+b))) η:=.int2 hx hy fun w=>by simp [Go.binOp,Op.intArith]
theorem Does.subW {t u:TypeId} {x y:Operand} {j:IntKind} {a b:Int} (hx:ev σ x=some (.int j a)) (hy:ev σ y=some (.int j b)) :
  Does P (.binOp .sub t x y u) σ g η (.int j (j.wrap (a - b))) η:=.int2 hx hy fun w=>by simp [Go.binOp,Op.intArith]
theorem Does.mulW {t u:TypeId} {x y:Operand} {j:IntKind} {a b:Int} (hx:ev σ x=some (.int j a)) (hy:ev σ y=some (.int j b)) :
  Does P (.binOp .mul t x y u) σ g η (.int j (j.wrap (a*b))) η:=.int2 hx hy fun w=>by simp [Go.binOp,Op.intArith]
theorem Does.quo {t u:TypeId} {x y:Operand} {j:IntKind} {a b:Int} (hx:ev σ x=some (.int j a)) (hy:ev σ y=some (.int j b)) (h0:b≠0) :
  Does P (.binOp .quo t x y u) σ g η (.int j (j.wrap (a.tdiv b))) η:=.int2 hx hy fun w=>by simp [Go.binOp,Op.intDiv,h0]
theorem Does.rem {t u:TypeId} {x y:Operand} {j:IntKind} {a b:Int} (hx:ev σ x=some (.int j a)) (hy:ev σ y=some (.int j b)) (h0:b≠0) :
  Does P (.binOp .rem t x y u) σ g η (.int j (a.tmod b)) η:=.int2 hx hy fun w=>by simp [Go.binOp,Op.intDiv,h0]
theorem Does.lss {t u:TypeId} {x y:Operand} {j:IntKind} {a b:Int} (hx:ev σ x=some (.int j a)) (hy:ev σ y=some (.int j b)) :
  Does P (.binOp .lss t x y u) σ g η (.bool (decide (a<b))) η:=.int2 hx hy fun w=>by simp [Go.binOp,Op.intCmp]
theorem Does.leq {t u:TypeId} {x y:Operand} {j:IntKind} {a b:Int} (hx:ev σ x=some (.int j a)) (hy:ev σ y=some (.int j b)) :
  Does P (.binOp .leq t x y u) σ g η (.bool (decide (a≤b))) η:=.int2 hx hy fun w=>by simp [Go.binOp,Op.intCmp]
theorem Does.gtr {t u:TypeId} {x y:Operand} {j:IntKind} {a b:Int} (hx:ev σ x=some (.int j a)) (hy:ev σ y=some (.int j b)) :
  Does P (.binOp .gtr t x y u) σ g η (.bool (decide (b<a))) η:=.int2 hx hy fun w=>by simp [Go.binOp,Op.intCmp]
theorem Does.geq {t u:TypeId} {x y:Operand} {j:IntKind} {a b:Int} (hx:ev σ x=some (.int j a)) (hy:ev σ y=some (.int j b)) :
  Does P (.binOp .geq t x y u) σ g η (.bool (decide (b≤a))) η:=.int2 hx hy fun w=>by simp [Go.binOp,Op.intCmp]
theorem Does.eql {t u:TypeId} {x y:Operand} {j:IntKind} {a b:Int} (hx:ev σ x=some (.int j a)) (hy:ev σ y=some (.int j b)) :
  Does P (.binOp .eql t x y u) σ g η (.bool (decide (a=b))) η:=.int2 hx hy fun w=>by simp [Go.binOp,Op.intCmp];rfl
theorem Does.neq {t u:TypeId} {x y:Operand} {j:IntKind} {a b:Int} (hx:ev σ x=some (.int j a)) (hy:ev σ y=some (.int j b)) :
  Does P (.binOp .neq t x y u) σ g η (.bool (decide (a≠b))) η:=.int2 hx hy fun w=>by simp [Go.binOp,Op.intCmp];rfl
theorem Does.shl {t u:TypeId} {x y:Operand} {j i:IntKind} {a b:Int} (hx:ev σ x=some (.int j a)) (hy:ev σ y=some (.int i b)) (h0:0≤b) :
  Does P (.binOp .shl t x y u) σ g η (.int j (j.wrap (a*2 ^ min b.toNat j.bits))) η :=
 .run fun o ρ w ho hk=>by
  have:¬ b<0:=by omega
  simp [execOp,ho,hk x _ hx,hk y _ hy,eqGuard,Go.binOp,Op.shift,this]
theorem Does.shr {t u:TypeId} {x y:Operand} {j i:IntKind} {a b:Int} (hx:ev σ x=some (.int j a)) (hy:ev σ y=some (.int i b)) (h0:0≤b) :
  Does P (.binOp .shr t x y u) σ g η (.int j (a.fdiv (2 ^ min b.toNat j.bits))) η :=
 .run fun o ρ w ho hk=>by
  have:¬ b<0:=by omega
  simp [execOp,ho,hk x _ hx,hk y _ hy,eqGuard,Go.binOp,Op.shift,this]
def bitsOf (op:BinOp) (k:IntKind) (a b:Int):Int :=
 let x:=BitVec.ofInt k.bits a
 let y:=BitVec.ofInt k.bits b
 match op with
 |.and=>k.wrap (x &&& y).toNat
 | .or => k.wrap (x ||| y).toNat
 |.xor=>k.wrap (x ^^^ y).toNat
 | .andNot => k.wrap (x &&& ~~~y).toNat
 |_=>0
theorem Does.and {t u:TypeId} {x y:Operand} {j:IntKind} {a b:Int} (hx:ev σ x=some (.int j a)) (hy:ev σ y=some (.int j b)) :
  Does P (.binOp .and t x y u) σ g η (.int j (bitsOf .and j a b)) η:=.int2 hx hy fun w=>by simp [Go.binOp,Op.intBits,bitsOf]
theorem Does.or {t u:TypeId} {x y:Operand} {j:IntKind} {a b:Int} (hx:ev σ x=some (.int j a)) (hy:ev σ y=some (.int j b)) :
  Does P (.binOp .or t x y u) σ g η (.int j (bitsOf .or j a b)) η:=.int2 hx hy fun w=>by simp [Go.binOp,Op.intBits,bitsOf]
theorem Does.xor {t u:TypeId} {x y:Operand} {j:IntKind} {a b:Int} (hx:ev σ x=some (.int j a)) (hy:ev σ y=some (.int j b)) :
  Does P (.binOp .xor t x y u) σ g η (.int j (bitsOf .xor j a b)) η:=.int2 hx hy fun w=>by simp [Go.binOp,Op.intBits,bitsOf]
theorem Does.not {t:TypeId} {x:Operand} {b:Bool} (hx:ev σ x=some (.bool b)):Does P (.unOp .not t x) σ g η (.bool (!b)) η :=
 .run fun o ρ w ho hk=>by simp [execOp,ho,hk x _ hx,Op.unary]
theorem Does.neg {t:TypeId} {x:Operand} {j:IntKind} {a:Int} (hx:ev σ x=some (.int j a)):Does P (.unOp .neg t x) σ g η (.int j (j.wrap (0 - a))) η :=
 .run fun o ρ w ho hk=>by simp [execOp,ho,hk x _ hx,Op.unary,Op.intArith]
theorem Does.compl {t:TypeId} {x:Operand} {j:IntKind} {a:Int} (hx:ev σ x=some (.int j a)):Does P (.unOp .xor t x) σ g η (.int j (bitsOf .xor j (if j.signed then -1 else j.max) a)) η :=
 .run fun o ρ w ho hk=>by simp [execOp,ho,hk x _ hx,Op.unary,Op.intBits,bitsOf]
theorem Does.cvt {s t:TypeId} {x:Operand} {j k:IntKind} {a:Int} {d:TypeDesc} (hs:P.underlying s=some d) (ht:P.underlying t=some (.int k)) (hx:ev σ x=some (.int j a)) :
  Does P (.convert s t x) σ g η (.int k (k.wrap a)) η :=
 .run fun o ρ w ho hk=>by simp [execOp,ho,hk x _ hx,convert,run_underlying hs,run_underlying ht,Conv.intToInt]
theorem run_equal_bool {t:TypeId} (ht:P.underlying t=some .bool) (a b:Bool) (w:World):(Op.equal t (.bool a) (.bool b)).run P w=.ok (a ==b) w:=by
 show (Op.equalIn (9999+1) t (.bool a) (.bool b)).run P w=_
 rw [Op.equalIn]
 simp [run_underlying ht]
theorem Does.eqlB {t u:TypeId} {x y:Operand} {a b:Bool} (ht:P.underlying t=some .bool) (hx:ev σ x=some (.bool a)) (hy:ev σ y=some (.bool b)) :
  Does P (.binOp .eql t x y u) σ g η (.bool (decide (a=b))) η :=
 .run fun o ρ w ho hk=>by simp [execOp,ho,hk x _ hx,hk y _ hy,eqGuard,Go.binOp,run_equal_bool ht];rfl
theorem Does.eqlS {t u:TypeId} {x y:Operand} {a b:ByteArray} (hx:ev σ x=some (.string a)) (hy:ev σ y=some (.string b)) :
  Does P (.binOp .eql t x y u) σ g η (.bool (decide (a.toList=b.toList))) η :=
 .run fun o ρ w ho hk=>by
  have:(a.toList ==b.toList)=decide (a.toList=b.toList):=by rw [Bool.eq_iff_iff];simp
  simp [execOp,ho,hk x _ hx,hk y _ hy,eqGuard,Go.binOp,Op.stringOp,this]
theorem Does.addS {t u:TypeId} {x y:Operand} {a b:ByteArray} (hx:ev σ x=some (.string a)) (hy:ev σ y=some (.string b)) (hl:a.size+b.size≤9223372036854775807) :
  Does P (.binOp .add t x y u) σ g η (.string (a++b)) η :=
 .run fun o ρ w ho hk=>by
  have:¬ (9223372036854775807<((a.size:Int)+(b.size:Int))):=by omega
  simp [execOp,ho,hk x _ hx,hk y _ hy,eqGuard,Go.binOp,Op.stringOp,this]
theorem Does.len {t:TypeId} {x:Operand} {e:TypeId} {a:Option Addr} {m c:Nat} {ts:Array TypeId} (hts:ts[0]?=some t) (ht:P.underlying t=some (.slice e)) (hx:ev σ x=some (.slice a m c)) :
  Does P (.call ⟨.builtin .len,#[x],ts⟩) σ g η (.int .i64 (m:Int)) η :=
 .run fun o ρ w ho hk=>by simp [execOp,ho,resolve,invoke,builtin,hk x _ hx,Builtin.len_,hts,run_underlying ht,goInt]
theorem Does.cap {t:TypeId} {x:Operand} {e:TypeId} {a:Option Addr} {m c:Nat} {ts:Array TypeId} (hts:ts[0]?=some t) (ht:P.underlying t=some (.slice e)) (hx:ev σ x=some (.slice a m c)) :
  Does P (.call ⟨.builtin .cap,#[x],ts⟩) σ g η (.int .i64 (c:Int)) η :=
 .run fun o ρ w ho hk=>by simp [execOp,ho,resolve,invoke,builtin,hk x _ hx,Builtin.cap_,hts,run_underlying ht,goInt]
theorem Does.lenS {t:TypeId} {x:Operand} {s:ByteArray} {ts:Array TypeId} (hts:ts[0]?=some t) (ht:P.underlying t=some .string) (hx:ev σ x=some (.string s)) :
  Does P (.call ⟨.builtin .len,#[x],ts⟩) σ g η (.int .i64 (s.size:Int)) η :=
 .run fun o ρ w ho hk=>by simp [execOp,ho,resolve,invoke,builtin,hk x _ hx,Builtin.len_,hts,run_underlying ht,goInt]
theorem Does.extract {x:Operand} {vs:Array Value} {j:Nat} {v:Value} (hx:ev σ x=some (.tuple vs)) (hj:vs[j]?=some v):Does P (.extract x j) σ g η v η :=
 .run fun o ρ w ho hk=>by simp [execOp,ho,hk x _ hx,Instr.extract,hj]
theorem Does.mkFunc {fn:Go.Fn} {first cap:Array Operand} {vs us:List Value} (h1:evs σ first.toList=some vs) (h2:evs σ cap.toList=some us) :
  Does P (.makeFunc fn first cap) σ g η (.func fn vs.toArray us.toArray) η :=
 .run fun o ρ w ho hk=>by
  have e1:first.map ρ=vs.toArray:=by rw [← evs_spec hk h1,← Array.toList_map]
  have e2:cap.map ρ=us.toArray:=by rw [← evs_spec hk h2,← Array.toList_map]
  simp [execOp,ho,Instr.makeFunc,e1,e2]
theorem Does.nilCheck {x:Operand} {a:Addr} (hx:ev σ x=some (.pointer (some a))):Does P (.nilCheck x) σ g η (.pointer (some a)) η :=
 .run fun o ρ w ho hk=>by simp [execOp,ho,hk x _ hx]
end
end Go.Sp
end
section
/- Texts of this proof. -/
namespace Go.Sp
def flat1 (P:Program) (t:TypeId):Bool:=flat P t && ((P.info? t).map (·.size) ==some 1)
theorem flat1_flat {P:Program} {t:TypeId} (h:flat1 P t=true):flat P t=true:=by unfold flat1 at h;simp at h;exact h.1
theorem run_sizeOf {P:Program} {t:TypeId} {m:Nat} (h:(P.info? t).map (·.size)=some m) (w:World):(sizeOf t).run P w=.ok m w:=by
 cases hi:P.info? t with
 |none=>rw [hi] at h;cases h
 |some i=>rw [hi] at h;simp at h;simp [sizeOf,typeInfo,hi,h]
def At (h:Fr) (p:Addr) (cs:List Value):Prop:=∀ j (hj:j<cs.length),h.cell (p.add j)=some cs[j]
theorem At.mono {h k:Fr} {p:Addr} {cs:List Value} (s:h.sub k) (x:At h p cs):At k p cs:=fun j hj=>Fr.cell_mono s (x j hj)
theorem Addr.add_add (a:Addr) (i j:Nat):(a.add i).add j=a.add (i+j):=by
 unfold Addr.add
 by_cases hi:i=0
 ·subst hi;simp
 ·by_cases hj:j=0
  ·subst hj;simp
  ·have:i+j≠0:=by omega
   simp [hi,hj,Nat.add_assoc]
theorem Addr.add_zero (a:Addr):a.add 0=a:=by simp [Addr.add]
theorem At.drop {h:Fr} {p:Addr} {cs:List Value} (x:At h p cs) (i:Nat):At h (p.add i) (cs.drop i):=fun j hj=>by
 rw [Addr.add_add,x (i+j) (by simp at hj;omega)];simp
theorem At.take {h:Fr} {p:Addr} {cs:List Value} (x:At h p cs) (i:Nat):At h p (cs.take i):=fun j hj=>by
 rw [x j (by simp at hj;omega)];simp
theorem At.at {h:Fr} {p:Addr} {cs:List Value} (x:At h p cs) {j:Nat} {v:Value} (hv:cs[j]?=some v):h.cell (p.add j)=some v:=by
 obtain ⟨hj,rfl⟩:=List.getElem?_eq_some_iff.1 hv;exact x j hj
def Sl (h:Fr) (v:Value) (k m:Nat) (cs:List Value):Prop :=
 ∃ a cap,v=.slice a m cap∧m≤cap∧(cap≤9223372036854775807∧(a=none→cap=0))∧cs.length=m*k∧∀ j (hj:j<cs.length),∃ p,a=some p∧h.cell (p.add j)=some cs[j]
theorem Sl.mono {h h' :Fr} {v:Value} {k m:Nat} {cs:List Value} (s:h.sub h'):Sl h v k m cs→Sl h' v k m cs
 |⟨a,cap,h1,h2,h3,h4,h5⟩=>⟨a,cap,h1,h2,h3,h4,fun j hj=>let ⟨p,x,y⟩:=h5 j hj;⟨p,x,Fr.cell_mono s y⟩⟩
theorem Sl.bound {h:Fr} {v:Value} {k m:Nat} {cs:List Value}:Sl h v k m cs→m≤9223372036854775807
 |⟨_,_,_,h1,h2,_,_⟩=>Nat.le_trans h1 h2.1
def obj (b:Nat) (T:TypeId) (cs:List Value):SProp:=blk b (.cells cs.toArray T (0,0))
def Thawed (fz:Nat × Nat) (n:Nat):Prop:=∀ j,j<n→¬(fz.1≤j∧j<fz.2)
theorem thawed0 (n:Nat):Thawed (0,0) n:=fun j _ h=>Nat.not_lt_zero j h.2
def Own (v:Value) (k:Nat) (T:TypeId) (m:Nat) (cs:List Value):SProp:=fun h =>
 cs.length=m*k∧((v=.slice none 0 0∧m=0) ∨
  ∃ b cap cur,v=.slice (some ⟨b,0,none⟩) m cap∧(∃ fz,h b=some (.cells cur T fz)∧Thawed fz (cap*k))∧m≤cap∧cap≤9223372036854775807∧cur.size=cap*k∧cur.toList.take (m*k)=cs)
theorem Own.sl {h:Fr} {v:Value} {k m:Nat} {T:TypeId} {cs:List Value}:Own v k T m cs h→Sl h v k m cs
 |⟨hl,.inl ⟨hv,hm⟩⟩=>by subst hv hm;exact ⟨none,0,rfl,Nat.le_refl _,⟨by omega,fun _=>rfl⟩,hl,fun j hj=>by omega⟩
 |⟨hl,.inr ⟨b,cap,cur,hv,⟨fz,hb,_⟩,h1,h2,h3,h4⟩⟩=>by
  subst hv;refine ⟨_,cap,rfl,h1,⟨h2,fun h=>by cases h⟩,hl,fun j hj=>⟨_,rfl,?_⟩⟩;have hj' :j<m*k:=by omega
  have:(⟨b,0,none⟩:Addr).add j=⟨b,j,none⟩:=by
   unfold Addr.add;split
   ·rename_i hz;subst hz;rfl
   ·simp
  rw [this];simp only [Fr.cell,hb];subst h4;simp only [Option.isSome_none,Bool.false_eq_true,if_false,List.getElem_take];have:j<cur.size:=by
   have:=List.length_take_le (m*k) cur.toList
   simp at hj;omega
  simp [this]
section
variable {ro:Option Nat} {P:Program} {σ:List (Nat × Value)} {g:Gr} {η ζ:List SProp}
theorem Does.load {t:TypeId} {x:Operand} {p:Addr} {v:Value} (ht:flat1 P t=true) (hx:ev σ x=some (.pointer (some p))) (hp:g.h.cell p=some v):Does P (.load t x) σ g η v η :=
 fun o ρ w ho hk hw=>⟨w,by
  have hc:w.cell? p=some v:=Fr.cell_mono hw.ground hp
  simp [execOp,ho,hk x _ hx,Instr.loadAt,Instr.sureAddr,loadVar,run_isAgg_flat (flat1_flat ht),hc],hw⟩
theorem Does.loadAgg {t:TypeId} {x:Operand} {p:Addr} {cs:List Value} (ht:∀ w,(isAgg t).run P w=.ok true w) (hs:(P.info? t).map (·.size)=some cs.length)
  (hx:ev σ x=some (.pointer (some p))) (hp:At g.h p cs):Does P (.load t x) σ g η (.agg cs.toArray) η :=
 fun o ρ w ho hk hw=>⟨w,by
  have hr:=run_loadCells_list (P:=P) w p cs fun j v hj=>Fr.cell_mono hw.ground (hp.at hj)
  simp [execOp,ho,hk x _ hx,Instr.loadAt,Instr.sureAddr,loadVar,ht,run_sizeOf hs,hr],hw⟩
theorem Holds.obj_cell {w:World} {b:Nat} {T:TypeId} {cs:List Value} (h:Holds w g (obj b T cs::η)) {j:Nat} {v:Value} (hj:cs[j]?=some v):w.cell? ⟨b,j,none⟩=some v:=by
 have:=h.block
 simp [World.cell?,this,hj]
theorem Does.loadObj {t T:TypeId} {x:Operand} {b j:Nat} {cs:List Value} {v:Value} (ht:flat1 P t=true) (hx:ev σ x=some (.pointer (some ⟨b,j,none⟩))) (hs:Sel η (obj b T cs) ζ) (hj:cs[j]?=some v) :
  Does P (.load t x) σ g η v η :=
 fun o ρ w ho hk hw=>⟨w,by
  have hc:w.cell? ⟨b,j,none⟩=some v:=(hw.sel hs).obj_cell hj
  simp [execOp,ho,hk x _ hx,Instr.loadAt,Instr.sureAddr,loadVar,run_isAgg_flat (flat1_flat ht),hc],hw⟩
theorem add_lit (b i j:Nat):(⟨b,i,none⟩:Addr).add j=⟨b,i+j,none⟩:=by
 unfold Addr.add;split
 ·rename_i hz;subst hz;rfl
 ·rfl
theorem Does.loadObjAgg {t T:TypeId} {x:Operand} {b i:Nat} {cs news:List Value} (ht:∀ w,(isAgg t).run P w=.ok true w) (hsz:(P.info? t).map (·.size)=some news.length)
  (hx:ev σ x=some (.pointer (some ⟨b,i,none⟩))) (hs:Sel η (obj b T cs) ζ) (hn:(cs.drop i).take news.length=news):Does P (.load t x) σ g η (.agg news.toArray) η :=
 fun o ρ w ho hk hw=>⟨w,by
  have hr:=run_loadCells_list (P:=P) w ⟨b,i,none⟩ news fun j v hj=>by
   rw [add_lit];refine (hw.sel hs).obj_cell ?_;have hjl:j<news.length:=(List.getElem?_eq_some_iff.1 hj).1;rw [← hn,List.getElem?_take_of_lt hjl,List.getElem?_drop] at hj;exact hj
  simp [execOp,ho,hk x _ hx,Instr.loadAt,Instr.sureAddr,loadVar,ht,run_sizeOf hsz,hr],hw⟩
def fieldOff (P:Program) (s f:Nat):Option Nat :=
 match P.underlying s with
 |some (.struct fs) =>
  match fs[f]? with
  |some fd=>match (P.info? fd.type).map (·.size) with|some (_+1)=>some fd.offset|_=>none
  |none=>none
 |_=>none
theorem run_fieldAt {s f off:Nat} (h:fieldOff P s f=some off) (a:Addr) (w:World):(Instr.fieldAt s (.pointer (some a)) f).run P w=.ok (.pointer (some (a.add off))) w:=by
 unfold fieldOff at h
 split at h
 ·rename_i fs hu
  split at h
  ·rename_i fd hf
   split at h
   ·rename_i m hm
    cases h
    simp [Instr.fieldAt,run_underlying hu,hf,Instr.sureAddr,fieldPlace,run_sizeOf hm]
   ·cases h
  ·cases h
 ·cases h
theorem Does.fieldAddr {s f off:Nat} {x:Operand} {a:Addr} (h:fieldOff P s f=some off) (hx:ev σ x=some (.pointer (some a))):Does P (.fieldAddr s x f) σ g η (.pointer (some (a.add off))) η :=
 .run fun o ρ w ho hk=>by simp [execOp,ho,hk x _ hx,run_fieldAt h]
theorem Does.fieldObj {s f off b i:Nat} {x:Operand} (h:fieldOff P s f=some off) (hx:ev σ x=some (.pointer (some ⟨b,i,none⟩))):Does P (.fieldAddr s x f) σ g η (.pointer (some ⟨b,i+off,none⟩)) η:=by
 have:=Does.fieldAddr (g:=g) (η:=η) h hx;rwa [add_lit] at this
def DoesE (P:Program) (op:Op) (σ:List (Nat × Value)) (g:Gr) (η:List SProp) (K:Value→List SProp→Prop):Prop :=
 ∀ (o:Oper) (ρ:Operand→Value) (w:World),o.op=op→Knows σ ρ→Holds w g η→∃ v w' η',K v η' ∧(execOp ρ o).run P w=.ok (.value v) w' ∧Holds w' g η'
theorem O.opE {ro:Option Nat} {fn:Func} {n:Nat} {R:Ending→World→Prop} {k:List Item} {D:List Deferred} {ops:Array Oper} {i d:Nat} {l:List Nat} {op:Op} {K:Value→List SProp→Prop}
  (ho:Fires ops i n σ d op) (hdo:DoesE P op σ g η K) (h:∀ v η',K v η' →O ro P fn n R ops l k ((d,v)::σ) D g η'):O ro P fn n R ops (i::l) k σ D g η:=by
 intro a w hf hd hw
 obtain ⟨o,hi,hdst,hop,hg,hb⟩:=ho.spec;obtain ⟨v,w',η',hk,hrun,hw'⟩:=hdo o a.eval w hop hf.knows hw;refine O.fire hi (hg a hf) (notDefer_value hrun) hrun ?_;rw [Oper.uponIn_value,hdst];exact h v η' hk _ _ (hf.put hb) hd hw'
theorem Holds.allocObj {w:World} (h:Holds w g η) (T:TypeId) (cs:Array Value):Holds (w.alloc (.cells cs T)) g (obj w.heap.size T cs.toList::η):=by
 have:=h.alloc (.cells cs T)
 simpa [obj] using this
theorem DoesE.alloc {T:TypeId} {z:Value} {cs:List Value} (hz:∀ w,(zeroValue T).run P w=.ok z w) (hc:z.cells.toList=cs):DoesE P (.alloc T) σ g η fun v η' =>∃ b,v=.pointer (some ⟨b,0,none⟩)∧η' =obj b T cs::η :=
 fun o ρ w ho _ hw=>by subst hc;exact ⟨_,_,_,⟨w.heap.size,rfl,rfl⟩,by simp [execOp,ho,Instr.alloc,hz,newVar,newRow],hw.allocObj T z.cells⟩
theorem DoesE.box {T:TypeId} {x:Operand} {v:Value} {cs:List Value} (hx:ev σ x=some v) (hc:v.cells.toList=cs):DoesE P (.box T x) σ g η fun p η' =>∃ b,p=.pointer (some ⟨b,0,none⟩)∧η' =obj b T cs::η :=
 fun o ρ w ho hk hw=>by subst hc;exact ⟨_,_,_,⟨w.heap.size,rfl,rfl⟩,by simp [execOp,ho,Instr.box,hk x _ hx,newVar,newRow],hw.allocObj T v.cells⟩
theorem Holds.setRow {w:World} {b:Nat} {T:TypeId} {cur cs:Array Value} {fz:Nat × Nat} (h:Holds w g (blk b (.cells cur T fz)::η)):Holds (w.setRow b cs) g (blk b (.cells cs T fz)::η) :=
 h.setBlock (setRow_heap w b _ cs T fz h.block) (fun i hi=>setRow_other w b i cs hi) rfl rfl rfl
theorem run_storeCells_z (P:Program) (g o:Nat) (t:TypeId) {fz:Nat × Nat} {n:Nat} (hz:Thawed fz n):∀ (vs:List Value) (i:Nat) (cur:Array Value) (w:World),w.heap[g]?=some (.cells cur t fz)→cur.size≤n→o+i+vs.length≤cur.size→(∀ v∈vs,v.oneCell' =true) →
  (storeCells ⟨g,o,none⟩ vs i).run P w=.ok () (w.setRow g (cur.toList.take (o+i)++vs++cur.toList.drop (o+i+vs.length)).toArray)
 |[],i,cur,w,hg,_,_,_=>by
  simp only [storeCells,List.append_nil,List.length_nil,Nat.add_zero,List.take_append_drop,Array.toArray_toList];rw [setRow_self w g cur t fz hg]
  rfl
 |v::rest,i,cur,w,hg,hn,hl,h1=>by
  have hi:o+i<cur.size:=by simp at hl;omega
  have hadd:(⟨g,o,none⟩:Addr).add i=⟨g,o+i,none⟩:=by unfold Addr.add;split<;>simp_all
  have hcell:w.cell? ⟨g,o+i,none⟩=some cur[o+i]:=by simp [World.cell?,hg,hi]
  have hfro:w.frozen? ⟨g,o+i,none⟩=false:=by
   have:=hz (o+i) (by omega);simp only [World.frozen?,hg]
   simpa using this
  have hst:(store ((⟨g,o,none⟩:Addr).add i) v).run P w=.ok () (w.setRow g (cur.setIfInBounds (o+i) v)):=by
   rw [hadd,run_store P w _ v _ (h1 v (by simp)),hcell]
   simp [hfro,setCell_eq_setRow w g (o+i) cur t fz v hg]
  have ih:=run_storeCells_z P g o t hz rest (i+1) (cur.setIfInBounds (o+i) v) (w.setRow g (cur.setIfInBounds (o+i) v)) (setRow_heap w g cur _ t _ hg) (by simpa using hn) (by simp at hl ⊢;omega) (fun x hx=>h1 x (by simp [hx]));simp only [storeCells,Sem.run_bind,hst,Result.andThen_ok,ih,setRow_setRow]
  congr 3
  have e:=list_seg_step cur.toList (o+i) v rest (by simp at hl ⊢;omega)
  simpa [Array.toList_setIfInBounds,Nat.add_assoc] using e
theorem DoesU.storeObj {t T:TypeId} {x y:Operand} {b i:Nat} {cs news:List Value} {v:Value} (hsz:(P.info? t).map (·.size)=some news.length) (hx:ev σ x=some (.pointer (some ⟨b,i,none⟩))) (hy:ev σ y=some v)
  (hv:v.cells.toList=news) (h1:news.all (·.oneCell')=true) (hs:Sel η (obj b T cs) ζ) (hl:i+news.length≤cs.length) :
  DoesU P (.store t x y) σ g η (obj b T (cs.take i++news++cs.drop (i+news.length))::ζ) :=
 fun o ρ w ho hk hw=>by
  have hw1:=hw.sel hs;have hst:=run_storeCells_at P b i T news 0 cs.toArray w hw1.block (by simpa using hl) (by simpa using h1);refine ⟨w.setRow b (cs.take i++news++cs.drop (i+news.length)).toArray,?_,hw1.setRow⟩;have hc:v.cells.size=news.length:=by rw [← hv];simp
  simp only [Nat.add_zero] at hst
  simp [execOp,ho,hk x _ hx,hk y _ hy,Instr.storeAt,Instr.sureAddr,storeVar,run_sizeOf hsz,hc,hv,hst]
theorem DoesU.store1 {t T:TypeId} {x y:Operand} {b i:Nat} {cs:List Value} {v:Value} (ht:flat1 P t=true) (hx:ev σ x=some (.pointer (some ⟨b,i,none⟩))) (hy:ev σ y=some v)
  (h1:v.oneCell' =true) (hs:Sel η (obj b T cs) ζ) (hl:i<cs.length):DoesU P (.store t x y) σ g η (obj b T (cs.set i v)::ζ):=by
 have hc:v.cells=#[v]:=by cases v<;>first|rfl|cases h1
 have hsz:(P.info? t).map (·.size)=some 1:=by unfold flat1 at ht;simp at ht;simpa using ht.2
 have:=DoesU.storeObj (P:=P) (g:=g) (news:=[v]) hsz hx hy (by rw [hc]) (by simp [h1]) hs (by simp;omega);rw [List.set_eq_take_append_cons_drop,if_pos hl]
 simpa using this
end
end Go.Sp
end
end
section
/- Texts of this proof. -/
namespace Go.Sp
section
variable {P:Program} {σ:List (Nat × Value)} {g:Gr} {η ζ:List SProp}
def elemIs (P:Program) (e k by_:Nat) (z:List Value):Prop:=∃ i zv,P.info? e=some i∧i.zero=some zv∧i.size=k∧i.bytes=by_∧zv.cells.toList=z∧z.length=k
theorem elemIs.mk {e k by_:Nat} {z:List Value} (h:(P.info? e).map (fun i=>(i.zero.map (·.cells.toList),i.size,i.bytes))=some (some z,k,by_)) (hz:z.length=k):elemIs P e k by_ z:=by
 unfold elemIs
 cases hi:P.info? e with
 |none=>rw [hi] at h;cases h
 |some i =>
  rw [hi] at h;simp only [Option.map_some,Option.some.injEq,Prod.mk.injEq,Option.map_eq_some_iff] at h;obtain ⟨⟨zv,h1,h2⟩,h3,h4⟩:=h;exact ⟨i,zv,rfl,h1,h3,h4,h2,hz⟩
def reps (z:List Value):Nat→List Value
 |0=>[]
 |m+1=>z++reps z m
theorem length_reps (z:List Value) (m:Nat):(reps z m).length=m*z.length:=by
 induction m with
 |zero=>simp [reps]
 |succ m ih=>simp [reps,ih,Nat.succ_mul,Nat.add_comm]
theorem reps_get (z:List Value) (m j:Nat) (h:j<m*z.length):(reps z m)[j]?=z[j % z.length]?:=by
 induction m generalizing j with
 |zero=>simp at h
 |succ m ih =>
  simp only [reps]
  rcases Nat.lt_or_ge j z.length with hj|hj
  ·rw [List.getElem?_append_left hj,Nat.mod_eq_of_lt hj]
  ·rw [List.getElem?_append_right hj,ih (j - z.length) (by rw [Nat.succ_mul] at h;omega),Nat.mod_eq_sub_mod hj]
theorem madeCells_reps (z:Array Value) (m:Nat) (hz:0<z.size):(madeCells z (m*z.size)).toList=reps z.toList m:=by
 apply List.ext_getElem?
 intro j
 rcases Nat.lt_or_ge j (m*z.size) with h|h
 ·rw [reps_get _ _ _ (by simpa using h)]
  have hm:=Nat.mod_lt j hz
  simp [madeCells,h,hm]
 ·rw [List.getElem?_eq_none (by simp [madeCells];exact h),List.getElem?_eq_none (by rw [length_reps];simpa using h)]
theorem Holds.ownF {w:World} {b:Nat} {T k m cap:Nat} {cur:Array Value} {cs:List Value} {fz:Nat × Nat} (h:Holds w g (blk b (.cells cur T fz)::η)) (hz:Thawed fz (cap*k)) (h1:m≤cap) (h2:cap≤9223372036854775807)
  (h3:cur.size=cap*k) (h4:cur.toList.take (m*k)=cs):Holds w g (Own (.slice (some ⟨b,0,none⟩) m cap) k T m cs::η) :=
 h.imp fun _=>Sat.cons_imp (fun f hf=>⟨by rw [← h4,List.length_take,Array.length_toList,h3];exact Nat.min_eq_left (Nat.mul_le_mul_right _ h1),.inr ⟨b,cap,cur,rfl,⟨fz,hf,hz⟩,h1,h2,h3,h4⟩⟩) fun _ x=>x
theorem Holds.own {w:World} {b:Nat} {T k m cap:Nat} {cur:Array Value} {cs:List Value} (h:Holds w g (blk b (.cells cur T (0,0))::η)) (h1:m≤cap) (h2:cap≤9223372036854775807)
  (h3:cur.size=cap*k) (h4:cur.toList.take (m*k)=cs):Holds w g (Own (.slice (some ⟨b,0,none⟩) m cap) k T m cs::η) :=
 h.ownF (thawed0 _) h1 h2 h3 h4
theorem run_append_roomZ {P:Program} (w:World) (t ty e:TypeId) (i:TypeInfo) (ht:P.underlying t=some (.slice e)) (hi:P.info? e=some i)
  (g sLen sCap:Nat) (cur:Array Value) {fz:Nat × Nat} (hg:w.heap[g]?=some (.cells cur e fz)) (hz:Thawed fz cur.size)
  (a:Addr) (m c:Nat) (news:List Value) (hl:news.length=m*i.size) (hnews:∀ j u,news[j]?=some u→w.cell? (a.add j)=some u) (h1:∀ u∈news,u.oneCell' =true)
  (hroom:sLen+m≤sCap) (hfit:sLen*i.size+news.length≤cur.size) :
  (Builtin.append_ #[t,t] ty #[.slice (some ⟨g,0,none⟩) sLen sCap,.slice (some a) m c]).run P w =
   .ok (.slice (some ⟨g,0,none⟩) (sLen+m) sCap) (w.setRow g (cur.toList.take (sLen*i.size)++news++cur.toList.drop (sLen*i.size+news.length)).toArray):=by
 have hf:=run_firstCells_some (P:=P) w i.size m a m c news hl hnews;have hst:=run_storeCells_z P g (sLen*i.size) e hz news 0 cur w hg (Nat.le_refl _) (by simpa using hfit) h1;simp only [Nat.add_zero] at hst
 simp [Builtin.append_,run_underlying ht,sizeOf,typeInfo,hi,Builtin.lenOf,hroom,hf,Addr.add_lit,hst]
theorem DoesE.make {t e k by_:Nat} {z:List Value} {x y:Operand} {m:Nat} {kx ky:IntKind} (ht:P.underlying t=some (.slice e)) (he:elemIs P e k by_ z) (hk:0<k)
  (hx:ev σ x=some (.int kx m)) (hy:ev σ y=some (.int ky m)) (hb:by_*m≤281474976710656) (h63:m≤9223372036854775807) :
  DoesE P (.makeSlice t x y) σ g η fun v η' =>η' =Own v k e m (reps z m)::η :=
 fun o ρ w ho hkn hw=>by
  obtain ⟨i,zv,hi,hz,hs,hby,hzc,hzl⟩:=he;subst hs hby hzc;have hb' :(i.bytes:Int)*(m:Int)≤281474976710656:=by rw [← Int.natCast_mul];omega
  have hr:=run_make (P:=P) w t e i zv ht hi hz kx ky m m (by omega) (Int.le_refl _) hb' (by omega);simp only [Int.toNat_natCast] at hr;have hzs:zv.cells.size=i.size:=by simpa using hzl
  refine ⟨.slice (some ⟨w.heap.size,0,none⟩) m m,w.alloc (.cells (madeCells zv.cells (m*i.size)) e),_,rfl,by simp [execOp,ho,hkn x _ hx,hkn y _ hy,hr],(hw.alloc _).own (Nat.le_refl _) (by omega) ?_ ?_⟩
  ·simp [madeCells]
  ·rw [← hzs,madeCells_reps _ _ (by omega),List.take_of_length_le (by rw [length_reps];simp)]
theorem DoesE.make0 {t e k by_:Nat} {z:List Value} {x y:Operand} {c:Nat} {kx ky:IntKind} (ht:P.underlying t=some (.slice e)) (he:elemIs P e k by_ z)
  (hx:ev σ x=some (.int kx 0)) (hy:ev σ y=some (.int ky c)) (hb:by_*c≤281474976710656) (h63:c≤9223372036854775807) :
  DoesE P (.makeSlice t x y) σ g η fun v η' =>η' =Own v k e 0 []::η :=
 fun o ρ w ho hkn hw=>by
  obtain ⟨i,zv,hi,hz,hs,hby,hzc,hzl⟩:=he;subst hs hby hzc;have hb' :(i.bytes:Int)*(c:Int)≤281474976710656:=by rw [← Int.natCast_mul];omega
  have hr:=run_make (P:=P) w t e i zv ht hi hz kx ky 0 c (by omega) (by omega) hb' (by omega);simp only [Int.toNat_natCast,Int.toNat_zero] at hr;refine ⟨.slice (some ⟨w.heap.size,0,none⟩) 0 c,w.alloc (.cells (madeCells zv.cells (c*i.size)) e),_,rfl,by simp [execOp,ho,hkn x _ hx,hkn y _ hy,hr],(hw.alloc _).own (Nat.zero_le _) (by omega) ?_ ?_⟩
  ·simp [madeCells]
  ·simp
def partsOf (σ:List (Nat × Value)):List (Nat × Operand)→Nat→Option (List Value)
 |[],_=>some []
 |(i,x)::r,j=>match Nat.beq i j,ev σ x,partsOf σ r (j+1) with|true,some v,some vs=>some (v::vs)|_,_,_=>none
theorem foldl_set:∀ (us pre mid post:List Value) (o:Nat) (q:Nat) (cells:Array Value),cells.toList=pre++mid++post→mid.length=us.length→pre.length=q+o →
  (us.zipIdx o).foldl (fun cs (x:Value × Nat)=>cs.setIfInBounds (q+x.2) x.1) cells=(pre++us++post).toArray
 |[],pre,mid,post,o,q,cells,hc,hm,_=>by
  have:mid=[]:=List.eq_nil_of_length_eq_zero (by simpa using hm);subst this
  apply Array.ext';simpa using hc
 |u::us,pre,mid,post,o,q,cells,hc,hm,hp=>by
  match mid,hm with
  |m::mid,hm =>
   simp only [List.zipIdx_cons,List.foldl_cons];rw [foldl_set us (pre++[u]) mid post (o+1) q _ ?_ (by simpa using hm) (by simp;omega)]
   ·simp
   ·rw [Array.toList_setIfInBounds,hc,← hp]
    simp
theorem fill_parts {σ:List (Nat × Value)} {ρ:Operand→Value} (hk:Knows σ ρ) (k:Nat):∀ (l:List (Nat × Operand)) (j:Nat) (vs:List Value) (pre rest:List Value) (cells:Array Value),
  partsOf σ l j=some vs→(∀ v∈vs,v.cells.size=k)→cells.toList=pre++rest→pre.length=j*k→rest.length=l.length*k →
  Instr.fill (fun i=>some (i*k,k)) cells (l.map fun p=>(p.1,ρ p.2))=some (pre++(vs.map (·.cells.toList)).flatten).toArray
 |[],j,vs,pre,rest,cells,h,_,hc,_,hr=>by
  cases h
  have:rest=[]:=List.eq_nil_of_length_eq_zero (by simpa using hr);subst this;simp only [List.map_nil,Instr.fill,List.flatten_nil,List.append_nil] at hc ⊢;rw [← hc]
 |(i,x)::l,j,vs,pre,rest,cells,h,hs,hc,hp,hr=>by
  simp only [partsOf] at h
  split at h
  ·rename_i v us hb hv hus
   cases h
   have:=Nat.eq_of_beq_eq_true hb;subst this;have hvk:v.cells.size=k:=hs v (by simp);have e2:(l.length+1)*k=l.length*k+k:=Nat.succ_mul _ _;simp only [List.length_cons] at hr;have hsz:cells.size=i*k+((l.length+1)*k):=by rw [← Array.length_toList,hc,List.length_append,hp,hr]
   have hf:(v.cells.zipIdx.foldl (fun cs (x:Value × Nat)=>cs.setIfInBounds (i*k+x.2) x.1) cells)=(pre++v.cells.toList++rest.drop k).toArray:=by
    rw [← Array.foldl_toList,Array.toList_zipIdx];refine foldl_set v.cells.toList pre (rest.take k) (rest.drop k) 0 (i*k) cells ?_ ?_ (by simpa using hp)
    ·rw [List.append_assoc,List.take_append_drop];exact hc
    ·simp [hvk];omega
   have h2:¬ (i*k+v.cells.size>cells.size):=by omega
   simp only [List.map_cons,Instr.fill,hk x v hv];rw [if_neg (by simp [hvk];omega)];refine (congrArg (fun c=>Instr.fill _ c _) hf).trans ?_;rw [fill_parts hk k l (i+1) us (pre++v.cells.toList) (rest.drop k) _ hus (fun u hu=>hs u (by simp [hu])) (by simp) (by simp [hp,hvk,Nat.succ_mul]) (by simp;omega)]
   simp
  ·cases h
theorem partsOf_length {σ:List (Nat × Value)}:∀ (l:List (Nat × Operand)) (j:Nat) (vs:List Value),partsOf σ l j=some vs→vs.length=l.length
 |[],_,_,h=>by cases h;rfl
 |(q,x)::l,j,vs,h=>by
  simp only [partsOf] at h
  split at h
  ·rename_i v us _ _ hus;cases h;simp [partsOf_length l _ _ hus]
  ·cases h
theorem length_cellsOf {k:Nat}:∀ vs:List Value,(∀ v∈vs,v.cells.size=k)→((vs.map (·.cells.toList)).flatten).length=vs.length*k
 |[],_=>by simp
 |v::vs,h=>by
  have:=length_cellsOf vs (fun u hu=>h u (by simp [hu]))
  simp [this,h v (by simp),Nat.succ_mul,Nat.add_comm]
theorem DoesE.lit {t e k by_:Nat} {z:List Value} {parts:Array (Nat × Operand)} {vs:List Value} {len:Nat} (ht:P.underlying t=some (.slice e)) (he:elemIs P e k by_ z) (hk:0<k)
  (hp:partsOf σ parts.toList 0=some vs) (hlen:parts.toList.length=len) (hvs:vs.all (fun v=>Nat.beq v.cells.size k)=true) (h24:len*k≤16777216) :
  DoesE P (.buildSlice t len parts) σ g η fun v η' =>η' =Own v k e len (vs.map (·.cells.toList)).flatten::η :=
 fun o ρ w ho hkn hw=>by
  obtain ⟨i,zv,hi,hz,hs,hby,hzc,hzl⟩:=he;subst hs hzc;have hzs:zv.cells.size=i.size:=by simpa using hzl
  have hv' :∀ v∈vs,v.cells.size=i.size:=fun v hv=>Nat.eq_of_beq_eq_true (List.all_eq_true.1 hvs v hv);have h24' :¬ (16777216<len*i.size):=by omega
  have hvl:((vs.map (·.cells.toList)).flatten).length=len*i.size:=by rw [length_cellsOf vs hv',partsOf_length _ _ _ hp,hlen]
  have hmap:(parts.map fun (p:Nat × Operand)=>(p.1,ρ p.2)).toList=parts.toList.map fun p=>(p.1,ρ p.2):=Array.toList_map;have hsz:(sizeOf e).run P w=.ok i.size w:=run_sizeOf (by simp [hi]) w;have hrun:(Instr.buildSlice t len (parts.map fun (p:Nat × Operand)=>(p.1,ρ p.2))).run P w =
    .ok (.slice (some ⟨w.heap.size,0,none⟩) len len) (w.alloc (.cells (vs.map (·.cells.toList)).flatten.toArray e)):=by
   have hf:∀ c:Array Value,c.size=len*i.size→Instr.fill (fun j=>some (j*i.size,i.size)) c (parts.map fun (p:Nat × Operand)=>(p.1,ρ p.2)).toList=some ((vs.map (·.cells.toList)).flatten).toArray:=fun c hc=>by
    rw [hmap];exact fill_parts hkn i.size parts.toList 0 vs [] c.toList c hp hv' rfl (by simp) (by simp [hc,← hlen])
   by_cases h0:len*i.size=0
   ·simp only [Instr.buildSlice,Sem.run_bind,run_underlying ht,Result.andThen_ok,hsz,h0,if_true,Sem.run_pure,Sem.run_ite]
    rw [hf _ (by simp [h0])]
    simp [newRow]
   ·simp only [Instr.buildSlice,Sem.run_bind,run_underlying ht,Result.andThen_ok,hsz,h24',if_false,h0,Sem.run_pure,Sem.run_ite,zeroValue,typeInfo,run_program,hi,hz]
    rw [hf _ (by simp)]
    simp [newRow]
  refine ⟨.slice (some ⟨w.heap.size,0,none⟩) len len,w.alloc (.cells (vs.map (·.cells.toList)).flatten.toArray e),_,rfl,?_,(hw.alloc _).own (Nat.le_refl _) ?_ ?_ ?_⟩
  ·simp only [execOp,ho,Sem.run_bind]
   have:(parts.map fun x=>match x with|(i,x)=>(i,ρ x))=parts.map fun (p:Nat × Operand)=>(p.1,ρ p.2):=rfl;rw [this,hrun];rfl
  ·have:len≤len*i.size:=Nat.le_mul_of_pos_right _ hk
   omega
  ·simpa using hvl
  ·exact List.take_of_length_le (by simpa using Nat.le_of_eq hvl)
theorem run_append_args {o:Oper} {x y:Operand} {ts:Array TypeId} {ρ:Operand→Value} (ho:o.op=.call ⟨.builtin .append,#[x,y],ts⟩) {w w' :World} {v:Value}
  (h:(Builtin.append_ ts o.type #[ρ x,ρ y]).run P w=.ok v w'):(execOp ρ o).run P w=.ok (.value v) w' :=by
 simp [execOp,ho,resolve,invoke,builtin,h]
theorem DoesE.append {t e k by_:Nat} {z:List Value} {x y:Operand} {v u:Value} {m q:Nat} {cs news:List Value} (ht:P.underlying t=some (.slice e)) (he:elemIs P e k by_ z) (hk:0<k)
  (hx:ev σ x=some v) (hy:ev σ y=some u) (hs:Sel η (Own v k e m cs) ζ) (hu:Sl g.h u k q news) (h1:∀ c∈news,c.oneCell' =true) (hb:(m+q)*by_≤140737488355328) (h63:m+q≤9223372036854775807) :
  DoesE P (.call ⟨.builtin .append,#[x,y],#[t,t]⟩) σ g η fun v' η' =>η' =Own v' k e (m+q) (cs++news)::ζ :=
 fun o ρ w ho hkn hw=>by
  obtain ⟨i,zv,hi,hz,hsz,hby,hzc,hzl⟩:=he;subst hsz hby hzc;have hzs:zv.cells.size=i.size:=by simpa using hzl
  obtain ⟨a,cap,rfl,c1,c2,c3,c4⟩:=hu;have hw1:=hw.sel hs
  cases a with
  |none =>
   have hq:news=[]:=by
    cases news with
    |nil=>rfl
    |cons c r=>obtain ⟨p,hp,_⟩:=c4 0 (by simp);cases hp
   subst hq;have hq0:q=0:=by
    have:q*i.size=0:=by rw [← c3];rfl
    rcases Nat.mul_eq_zero.1 this with h|h<;>omega
   subst hq0;have hv:∃ a cap,v=.slice a m cap∧m≤cap:=by
    obtain ⟨_,_,_,_,_,_,_,_,_,_,_,_,hA,_⟩:=hw1
    rcases hA with ⟨_,⟨rfl,rfl⟩|⟨b,cap,cur,rfl,_,h1,_⟩⟩
    ·exact ⟨none,0,rfl,Nat.le_refl _⟩
    ·exact ⟨_,cap,rfl,h1⟩
   obtain ⟨a,cp,rfl,hle⟩:=hv;refine ⟨.slice a m cp,w,_,rfl,run_append_args ho ?_,by simpa using hw1⟩;rw [hkn x _ hx,hkn y _ hy]
   cases a<;>simp [Builtin.append_,run_underlying ht,sizeOf,typeInfo,hi,Builtin.lenOf,Builtin.firstCells,storeCells,hle]
  |some a =>
   have hnews:∀ j u,news[j]?=some u→w.cell? (a.add j)=some u:=fun j u hj=>by
    obtain ⟨hjl,rfl⟩:=List.getElem?_eq_some_iff.1 hj;obtain ⟨p,hp,hc⟩:=c4 j hjl
    cases hp
    exact Fr.cell_mono hw.ground hc
   have hnx:=hkn x _ hx;have hny:=hkn y _ hy;have fresh:∀ (old:Nat),old<m+q→cs.length=m*i.size→Holds (w.drew.alloc (.cells (cs.toArray++news.toArray++Builtin.zeroCells zv.cells (grownCap w (m+q) old e - (m+q))) e)) g
     (Own (.slice (some ⟨w.heap.size,0,none⟩) (m+q) (grownCap w (m+q) old e)) i.size e (m+q) (cs++news)::ζ):=by
    intro old ho hcl
    have hge:=grownCap_ge w (m+q) old e;have hcm:=grownCap_le_maxLen w (m+q) old e (by simpa [maxLen] using h63);have hlen:(cs++news).length=(m+q)*i.size:=by rw [List.length_append,hcl,c3,Nat.add_mul]
    refine (((hw1.drop).drewN _ (Nat.le_add_right _ _)).alloc _).own hge (by simpa [maxLen] using hcm) ?_ ?_
    ·simp only [Array.size_append,List.size_toArray,size_zeroCells,hzs,hcl,c3,← Nat.add_mul]
     congr 1
     omega
    ·simp only [Array.toList_append,List.append_assoc]
     rw [← List.append_assoc,← hlen];exact List.take_left
   obtain ⟨hA,hA'⟩:cs.length=m*i.size∧((v=.slice none 0 0∧m=0)∨∃ b cap cur,v=.slice (some ⟨b,0,none⟩) m cap∧m≤cap∧cap≤9223372036854775807∧cur.size=cap*i.size∧cur.toList.take (m*i.size)=cs ∧
     ∃ fz,Thawed fz (cap*i.size)∧Holds w g (blk b (.cells cur e fz)::ζ)):=by
    obtain ⟨p1,p2,p3,K,hd,s1,s2,k1,k2,kd,t1,t2,⟨hl,hA⟩,hr⟩:=hw1;refine ⟨hl,hA.imp id ?_⟩;rintro ⟨b,cap,cur,rfl,⟨fz,hbk,hz⟩,h1,h2,h3,h4⟩;exact ⟨b,cap,cur,rfl,h1,h2,h3,h4,fz,hz,p1,p2,p3,K,hd,s1,s2,k1,k2,kd,t1,t2,hbk,hr⟩
   rcases hA' with ⟨rfl,rfl⟩|⟨b,cp,cur,rfl,h1',h2',h3',h4',fz,hfz,hwb⟩
   ·have hcs:cs=[]:=List.eq_nil_of_length_eq_zero (by simpa using hA)
    subst hcs
    by_cases hq:q=0
    ·subst hq
     have hn:news=[]:=List.eq_nil_of_length_eq_zero (by simpa using c3);subst hn;refine ⟨.slice none 0 0,w,_,rfl,run_append_args ho ?_,by simpa using hw1⟩;rw [hnx,hny]
     simp [Builtin.append_,run_underlying ht,sizeOf,typeInfo,hi,Builtin.lenOf,Builtin.firstCells,loadCells,loadCellsFrom]
    ·have hr:=run_append_nil (P:=P) w t o.type e i zv ht hi hz a q cap news c3 hnews (by omega) (by omega) (by have hb:=hb;simp only [Nat.zero_add] at hb;omega)
     have hf:=fresh 0 (by omega) (by simp);simp only [Nat.zero_add,List.nil_append,Array.empty_append] at hf ⊢;exact ⟨_,_,_,rfl,run_append_args ho (by rw [hnx,hny];exact hr),hf⟩
   ·by_cases hroom:m+q≤cp
    ·have hfit:m*i.size+news.length≤cur.size:=by rw [c3,h3',← Nat.add_mul];exact Nat.mul_le_mul_right _ hroom
     have hr:=run_append_roomZ (P:=P) w t o.type e i ht hi b m cp cur hwb.block (by rw [h3'];exact hfz) a q cap news c3 hnews h1 hroom hfit;refine ⟨_,_,_,rfl,run_append_args ho (by rw [hnx,hny];exact hr),hwb.setRow.ownF hfz hroom h2' ?_ ?_⟩
     ·simp only [List.size_toArray,List.length_append,List.length_take,List.length_drop,Array.length_toList]
      omega
     ·have hlen:(cs++news).length=(m+q)*i.size:=by rw [List.length_append,hA,c3,Nat.add_mul]
      rw [h4',← hlen];exact List.take_left
    ·have holds:∀ j u,cs[j]?=some u→w.cell? ((⟨b,0,none⟩:Addr).add j)=some u:=fun j u hj=>by
      have hb0:=hwb.block;rw [add_lit,Nat.zero_add];have hjl:=(List.getElem?_eq_some_iff.1 hj).1;rw [← h4',List.getElem?_take_of_lt (by omega)] at hj
      simpa [World.cell?,hb0] using hj
     have hr:=run_append_grow (P:=P) w t o.type e i zv ht hi hz ⟨b,0,none⟩ m cp cs hA holds a q cap news c3 hnews (by omega) (by omega) (growslice_fits (by omega) hb);exact ⟨_,_,_,rfl,run_append_args ho (by rw [hnx,hny];exact hr),fresh cp (by omega) hA⟩
end
end Go.Sp
end
end
end
section
/- Texts of this proof, one behind the other. -/
section
/- Texts of this proof. -/
namespace Go.Sp
open Region (binds ready)
def isAlloc:Op→Bool
 |.alloc _=>true
 |_=>false
def allocAt (ops:Array Oper) (i:Nat):Bool:=match ops[i]? with|some o=>isAlloc o.op|none=>false
def zeroOf (P:Program) (T:TypeId):Option Value:=(P.info? T).bind (·.zero)
theorem run_zeroOf {P:Program} {T:TypeId} {z:Value} (h:zeroOf P T=some z) (w:World):(zeroValue T).run P w=.ok z w:=by
 unfold zeroOf at h
 cases hi:P.info? T with
 |none=>rw [hi] at h;cases h
 |some i=>rw [hi] at h;simp at h;simp [zeroValue,typeInfo,hi,h]
def descOk (ops:Array Oper):List Nat→List Nat→Bool
 |_,[]=>true
 |acc,i::l=>match allocAt ops i with
  |true=>descOk ops acc l
  |false=>(match ops[i]? with|some o=>o.after.any fun e=>binds .any e && acc.contains e.on|none=>false) && descOk ops (i::acc) l
def tmpsOf (xs:Array Operand):List Nat:=xs.toList.filterMap fun|.tmp t=>some t|_=>none
def slotsRead (ops:Array Oper) (o:Oper):List Nat :=
 tmpsOf o.op.operands++(match o.guard with|some (j,_)=>(match ops[j]? with|some oj=>oj.dst.toList|none=>[])|none=>[])
def afterOk (ops:Array Oper):List Nat→List Nat→Bool
 |_,[]=>true
 |dn,i::l=>(match ops[i]? with|some o=>o.after.all fun e=>!binds .any e ||dn.contains e.on|none=>false) && afterOk ops (i::dn) l
def readsOk (ops:Array Oper):Bool :=
 (List.range ops.size).all fun i=>match ops[i]? with
  |some o=>(slotsRead ops o).all fun t=>(List.range ops.size).all fun j=>match ops[j]? with
   |some oj=>match oj.dst with|some d=>d !=t ||o.after.any (fun e=>binds .any e && e.on ==j) ||oj.after.any (fun e=>binds .any e && e.on ==i)|none=>true
   |none=>true
  |none=>false
def strongB (ops:Array Oper) (i:Nat):Bool:=match ops[i]? with
 |some oi=>match oi.dst with
  |some d=>(List.range ops.size).all fun j=>match ops[j]? with
   |some o=>!(slotsRead ops o).contains d ||o.after.any (fun e=>binds .any e && e.on ==i)
   |none=>true
  |none=>true
 |none=>true
def dstOk (ops:Array Oper):Bool :=
 (List.range ops.size).all fun i=>(List.range ops.size).all fun j=>i ==j ||match ops[i]?,ops[j]? with
  |some oi,some oj=>match oi.dst,oj.dst with|some d,some e=>d !=e|_,_=>true
  |_,_=>false
def allocOk (P:Program) (n:Nat) (ops:Array Oper):Bool :=
 (List.range ops.size).all (fun i=>!allocAt ops i ||strongB ops i) && ops.all fun o=>match o.op with|.alloc T=>(zeroOf P T).isSome && o.guard.isNone && (match o.dst with|some d=>Nat.blt d n|none=>false)|_=>true
def nodupOk:List Nat→Bool
 |[]=>true
 |i::l=>!l.contains i && nodupOk l
def orderOk (P:Program) (n:Nat) (ops:Array Oper) (l0:List Nat):Bool :=
 nodupOk l0 && (List.range ops.size).all (fun i=>l0.contains i) && l0.all (·<ops.size) && afterOk ops [] l0 && readsOk ops && dstOk ops && Region.noSelect ops && allocOk P n ops && l0.dropLast.all (strongB ops)
section
variable (P:Program) (fn:Func) (n:Nat) (R:Ending→World→Prop) (ops:Array Oper) (k:List Item) (D:List Deferred) (g:Gr)
def hangsOn (ops:Array Oper) (j:Nat):Nat→Nat→Bool
 |0,_=>false
 |f+1,i=>match ops[i]? with
  |some o=>o.after.any fun e=>binds .any e && (Nat.beq e.on j ||hangsOn ops j f e.on)
  |none=>false
def lastOk (ops:Array Oper) (i:Nat):Bool:=(List.range ops.size).all fun j=>Nat.beq j i ||hangsOn ops j 2 i ||hangsOn ops j 10 i
def altOk (ops:Array Oper) (cands l:List Nat):Bool :=
 !cands.isEmpty && cands.all (fun i=>l.contains i && !allocAt ops i && strongB ops i && (match ops[i]? with|some o=>o.after.all fun e=>!binds .any e ||!l.contains e.on|none=>false)) && descOk ops cands (l.filter fun i=>!cands.contains i)
def rowOk (ops:Array Oper):List Nat→Bool
 |[]=>true
 |i::l=>(l.all fun j=>match ops[i]? with|some o=>o.after.all fun e=>!binds .any e ||!Nat.beq e.on j|none=>false) && rowOk ops l
def permOk (ops:Array Oper) (l l' :List Nat):Bool:=nodupOk l' && l.all (fun i=>l'.contains i) && l'.all (fun i=>l.contains i) && rowOk ops l' && (l.getLast? ==l'.getLast?) && (match l' with|[]=>false|_=>true)
inductive ODx:Bool→List Nat→List (Nat × Value)→List SProp→Prop
 |nil {σ:List (Nat × Value)} {η:List SProp} (h:S none P fn n R k σ D g η):ODx false [] σ η
 |quiet {fl:Bool} {i d:Nat} {op:Op} {v:Value} {l:List Nat} {σ:List (Nat × Value)} {η:List SProp} (ho:Fires ops i n σ d op) (hna:isAlloc op=false) (hdo:∀ η,Does P op σ g η v η) (h:ODx false l ((d,v)::σ) η):ODx fl (i::l) σ η
 |no {fl:Bool} {i d t:Nat} {op:Op} {b:Bool} {l:List Nat} {σ:List (Nat × Value)} {η:List SProp} {v:Value} (ho:opAtG ops i n=some (d,op,t,b)) (hna:isAlloc op=false) (hl:look σ t=some v) (hv:notB b v=true) (h:ODx false l ((d,undef)::σ) η):ODx fl (i::l) σ η
 |lazy {i d:Nat} {T:TypeId} {z:Value} {l:List Nat} {σ:List (Nat × Value)} {η:List SProp} (ho:opAt ops i n=some (d,.alloc T)) (hd:descOk ops [i] l=true) (hz:zeroOf P T=some z)
   (h:∀ b,ODx false l ((d,.pointer (some ⟨b,0,none⟩))::σ) (obj b T z.cells.toList::η)):ODx false (i::l) σ η
 |callT {i d:Nat} {l:List Nat} {σ:List (Nat × Value)} {η ζ:List SProp} {f:FuncId} {x:Operand} {xs:Array Operand} {ts:Array TypeId} {vals:List Value} {K:Value→List SProp→Prop} {X:List PanicEntry→List SProp→Prop} {first cap:Array Value} {args:Array Value}
   (ho:Fires ops i n σ d (.call ⟨.value x,xs,ts⟩)) (hx:ev σ x=some (.func (.func f) first cap)) (hc:callable P f=true)
   (hv:evs σ xs.toList=some vals) (hargs:first++vals.toArray++cap=args) (con:Con P f args g.h η (RetP K X))
   (hp:∀ (a:Act) ch η' w,X ch η' →Holds w g (η' ++ζ)→Lv P fn a.tmps R D (.panicking ch) w) (h:∀ v η',K v η' →ODx false l ((d,v)::σ) (η' ++ζ)):ODx true (i::l) σ (η++ζ)
 |loudE {i d:Nat} {op:Op} {l:List Nat} {σ:List (Nat × Value)} {η:List SProp} {K:Value→List SProp→Prop} (ho:Fires ops i n σ d op) (hna:isAlloc op=false) (hdo:∀ ζ,DoesE P op σ g (η++ζ) fun v η' =>∃ η₁,K v η₁∧η' =η₁++ζ)
   (h:∀ v η',K v η' →ODx false l ((d,v)::σ) η'):ODx true (i::l) σ η
 |loudU {i:Nat} {op:Op} {l:List Nat} {σ:List (Nat × Value)} {η η' :List SProp} (ho:opAtU ops i=some op) (hna:isAlloc op=false) (hdo:∀ ζ,DoesV P op σ g (η++ζ) (η' ++ζ)) (h:ODx false l σ η'):ODx true (i::l) σ η
 |lastU {i:Nat} {op:Op} {σ:List (Nat × Value)} {η η' :List SProp} {g' :Gr} (ho:opAtU ops i=some op) (hna:isAlloc op=false) (hl:lastOk ops i=true)
   (hdo:∀ (o:Oper) (ρ:Operand→Value) (w:World),o.op=op→Knows σ ρ→Holds w g η→∃ w' u,(execOp ρ o).run P w=.ok u w' ∧(u=.skip∨∃ v,u=.value v)∧Holds w' g' η') (h:S none P fn n R k σ D g' η'):ODx true [i] σ η
 |one {i:Nat} {l:List Nat} {σ:List (Nat × Value)} {η:List SProp} (hd:descOk ops [i] l=true) (h:ODx true (i::l) σ η):ODx false (i::l) σ η
 |swap {l:List Nat} {σ:List (Nat × Value)} {η:List SProp} (l' :List Nat) (hp:permOk ops l l' =true) (h:ODx false l' σ η):ODx false l σ η
 |alt {l:List Nat} {σ:List (Nat × Value)} {η:List SProp} (cands:List Nat) (hok:altOk ops cands l=true) (h:∀ i∈cands,ODx true (i::l.erase i) σ η):ODx false l σ η
abbrev OD (l:List Nat) (σ:List (Nat × Value)) (η:List SProp):Prop:=ODx P fn n R ops k D g false l σ η
end
theorem Holds.drop_n {w:World} {g:Gr}:∀ {ζ η:List SProp},Holds w g (ζ++η)→Holds w g η
 |[],_,h=>h
 |_::ζ,_,h=>Holds.drop_n (ζ:=ζ) h.drop
theorem Con.retP {P:Program} {f:FuncId} {args:Array Value} {r:Fr} {η:List SProp} {K:Value→List SProp→Prop} (h:Con P f args r η (Ret K)):Con P f args r η (RetP K fun _ _=>False) :=
 h.mono fun e η' a=>by
  cases e with
  |returned v=>exact a
  |panicked _=>exact a.elim
  |outgrown=>exact a.elim
section
variable {ro:Option Nat} {P:Program} {fn:Func} {n:Nat} {R:Ending→World→Prop} {ops:Array Oper} {k:List Item} {D:List Deferred} {g:Gr}
theorem ODx.weaken {fl:Bool} {l:List Nat} {σ' :List (Nat × Value)} {η:List SProp} (h:ODx P fn n R ops k D g fl l σ' η):∀ {σ:List (Nat × Value)},Sub σ' σ→ODx P fn n R ops k D g fl l σ η:=by
 have evw:∀ {σ σ' :List (Nat × Value)},Sub σ' σ→∀ {x:Operand} {v:Value},ev σ' x=some v→ev σ x=some v:=by
  intro σ σ' hs x v hx
  cases x with
  |tmp t=>exact hs t v hx
  |const u=>exact hx
  |global g=>exact hx
  |func f=>exact hx
 have evsw:∀ {σ σ' :List (Nat × Value)},Sub σ' σ→∀ {xs:List Operand} {vs:List Value},evs σ' xs=some vs→evs σ xs=some vs:=by
  intro σ σ' hs xs
  induction xs with
  |nil=>intro vs h;exact h
  |cons x xs ih =>
   intro vs h
   simp only [evs] at h ⊢
   split at h
   ·rename_i v us hv hus;cases h;rw [evw hs hv,ih hus]
   ·cases h
 have knw:∀ {σ σ' :List (Nat × Value)} {ρ:Operand→Value},Sub σ' σ→Knows σ ρ→Knows σ' ρ:=fun hs hk x v hx=>hk x v (evw hs hx);have fw:∀ {σ σ' :List (Nat × Value)} {i d:Nat} {op:Op},Sub σ' σ→Fires ops i n σ' d op→Fires ops i n σ d op:=by
  intro σ σ' i d op hs hf
  cases hf with
  |p h=>exact .p h
  |g h hl=>exact .g h (hs _ _ hl)
 have ext:∀ {σ σ' :List (Nat × Value)} {d:Nat} {v:Value},Sub σ' σ→Sub ((d,v)::σ') ((d,v)::σ):=by
  intro σ σ' d v hs t u hu
  simp only [look] at hu ⊢
  split at hu
  ·exact hu
  ·exact hs _ _ hu
 induction h with
 |nil h=>intro σ hs;exact .nil (S.weaken hs h)
 |quiet ho hna hdo h ih=>intro σ hs;exact .quiet (fw hs ho) hna (fun η o ρ w h1 h2 h3=>hdo η o ρ w h1 (knw hs h2) h3) (ih (ext hs))
 |no ho hna hl hvb h ih=>intro σ hs;exact .no ho hna (hs _ _ hl) hvb (ih (ext hs))
 |lazy ho hd hz h ih=>intro σ hs;exact .lazy ho hd hz fun b=>ih b (ext hs)
 |callT ho hx hc hv hargs con hp h ih=>intro σ hs;exact .callT (fw hs ho) (evw hs hx) hc (evsw hs hv) hargs con hp fun v η' hk=>ih v η' hk (ext hs)
 |loudE ho hna hdo h ih=>intro σ hs;exact .loudE (fw hs ho) hna (fun ζ o ρ w h1 h2 h3=>hdo ζ o ρ w h1 (knw hs h2) h3) fun v η' hk=>ih v η' hk (ext hs)
 |loudU ho hna hdo h ih=>intro σ hs;exact .loudU ho hna (fun ζ o ρ w h1 h2 h3=>hdo ζ o ρ w h1 (knw hs h2) h3) (ih hs)
 |lastU ho hna hl hdo h=>intro σ hs;exact .lastU ho hna hl (fun o ρ w h1 h2 h3=>hdo o ρ w h1 (knw hs h2) h3) (S.weaken hs h)
 |one hd h ih=>intro σ hs;exact .one hd (ih hs)
 |swap l' hp h ih=>intro σ hs;exact .swap l' hp (ih hs)
 |alt cands hok h ih=>intro σ hs;exact .alt cands hok fun i hi=>ih i hi hs
theorem OD.weaken {l:List Nat} {σ' :List (Nat × Value)} {η:List SProp} (h:OD P fn n R ops k D g l σ' η):∀ {σ:List (Nat × Value)},Sub σ' σ→OD P fn n R ops k D g l σ η:=ODx.weaken h
def hdOk (fl:Bool) (ops:Array Oper) (i:Nat) (l:List Nat):Bool:=fl ||descOk ops [i] l
theorem ODx.head {fl:Bool} {i:Nat} {l:List Nat} {σ:List (Nat × Value)} {η:List SProp} (hd:hdOk fl ops i l=true) (h:ODx P fn n R ops k D g true (i::l) σ η):ODx P fn n R ops k D g fl (i::l) σ η:=by
 cases fl
 ·exact .one (by simpa [hdOk] using hd) h
 ·exact h
theorem OD.alt2 {l:List Nat} {σ:List (Nat × Value)} {η:List SProp} (a b:Nat) (la lb:List Nat) (hok:altOk ops [a,b] l=true) (ha:l.erase a=la) (hb:l.erase b=lb)
  (h1:ODx P fn n R ops k D g true (a::la) σ η) (h2:ODx P fn n R ops k D g true (b::lb) σ η):OD P fn n R ops k D g l σ η:=by
 subst ha;subst hb;refine .alt [a,b] hok fun i hi=>?_
 rcases List.mem_cons.1 hi with rfl|hi
 ·exact h1
 ·rw [List.mem_singleton.1 hi];exact h2
theorem ODg.callT {i d:Nat} {l:List Nat} {σ:List (Nat × Value)} {η ζ:List SProp} {f:FuncId} {x:Operand} {xs:Array Operand} {ts:Array TypeId} {vals:List Value} {K:Value→List SProp→Prop} {X:List PanicEntry→List SProp→Prop} {first cap:Array Value} {args:Array Value}
   (ho:Fires ops i n σ d (.call ⟨.value x,xs,ts⟩)) {fl:Bool} (hd:hdOk fl ops i l=true) (hx:ev σ x=some (.func (.func f) first cap)) (hc:callable P f=true)
   (hv:evs σ xs.toList=some vals) (hargs:first++vals.toArray++cap=args) (con:Con P f args g.h η (RetP K X))
   (hp:∀ (a:Act) ch η' w,X ch η' →Holds w g (η' ++ζ)→Lv P fn a.tmps R D (.panicking ch) w) (h:∀ v η',K v η' →OD P fn n R ops k D g l ((d,v)::σ) (η' ++ζ)):ODx P fn n R ops k D g fl (i::l) σ (η++ζ) :=
 ODx.head hd (ODx.callT ho hx hc hv hargs con hp h)
theorem OD.callT {i d:Nat} {l:List Nat} {σ:List (Nat × Value)} {η ζ:List SProp} {f:FuncId} {x:Operand} {xs:Array Operand} {ts:Array TypeId} {vals:List Value} {K:Value→List SProp→Prop} {X:List PanicEntry→List SProp→Prop} {first cap:Array Value} {args:Array Value} (ho:Fires ops i n σ d (.call ⟨.value x,xs,ts⟩)) (hd:descOk ops [i] l=true) (hx:ev σ x=some (.func (.func f) first cap)) (hc:callable P f=true) (hv:evs σ xs.toList=some vals) (hargs:first++vals.toArray++cap=args) (con:Con P f args g.h η (RetP K X)) (hp:∀ (a:Act) ch η' w,X ch η' →Holds w g (η' ++ζ)→Lv P fn a.tmps R D (.panicking ch) w) (h:∀ v η',K v η' →OD P fn n R ops k D g l ((d,v)::σ) (η' ++ζ)):OD P fn n R ops k D g (i::l) σ (η++ζ):=ODg.callT (fl:=false) ho (by simpa [hdOk] using hd) hx hc hv hargs con hp h
theorem ODg.loudE {i d:Nat} {op:Op} {l:List Nat} {σ:List (Nat × Value)} {η:List SProp} {K:Value→List SProp→Prop} (ho:Fires ops i n σ d op) (hna:isAlloc op=false) {fl:Bool} (hd:hdOk fl ops i l=true) (hdo:∀ ζ,DoesE P op σ g (η++ζ) fun v η' =>∃ η₁,K v η₁∧η' =η₁++ζ)
   (h:∀ v η',K v η' →OD P fn n R ops k D g l ((d,v)::σ) η'):ODx P fn n R ops k D g fl (i::l) σ η:=ODx.head hd (ODx.loudE ho hna hdo h)
theorem OD.loudE {i d:Nat} {op:Op} {l:List Nat} {σ:List (Nat × Value)} {η:List SProp} {K:Value→List SProp→Prop} (ho:Fires ops i n σ d op) (hna:isAlloc op=false) (hd:descOk ops [i] l=true) (hdo:∀ ζ,DoesE P op σ g (η++ζ) fun v η' =>∃ η₁,K v η₁∧η' =η₁++ζ) (h:∀ v η',K v η' →OD P fn n R ops k D g l ((d,v)::σ) η'):OD P fn n R ops k D g (i::l) σ η:=ODg.loudE (fl:=false) ho hna (by simpa [hdOk] using hd) hdo h
theorem ODt.loudE {i d:Nat} {op:Op} {l:List Nat} {σ:List (Nat × Value)} {η:List SProp} {K:Value→List SProp→Prop} (ho:Fires ops i n σ d op) (hna:isAlloc op=false) (_:true=true) (hdo:∀ ζ,DoesE P op σ g (η++ζ) fun v η' =>∃ η₁,K v η₁∧η' =η₁++ζ) (h:∀ v η',K v η' →OD P fn n R ops k D g l ((d,v)::σ) η'):ODx P fn n R ops k D g true (i::l) σ η:=ODg.loudE (fl:=true) ho hna rfl hdo h
theorem ODg.loudU {i:Nat} {op:Op} {l:List Nat} {σ:List (Nat × Value)} {η η' :List SProp} (ho:opAtU ops i=some op) (hna:isAlloc op=false) {fl:Bool} (hd:hdOk fl ops i l=true) (hdo:∀ ζ,DoesU P op σ g (η++ζ) (η' ++ζ)) (h:OD P fn n R ops k D g l σ η'):ODx P fn n R ops k D g fl (i::l) σ η:=ODx.head hd (ODx.loudU ho hna (fun ζ=>(hdo ζ).v) h)
theorem ODg.call {i d:Nat} {l:List Nat} {σ:List (Nat × Value)} {η ζ:List SProp} {f:FuncId} {x:Operand} {xs:Array Operand} {ts:Array TypeId} {vals:List Value} {K:Value→List SProp→Prop} {first cap:Array Value} {args:Array Value}
  (ho:Fires ops i n σ d (.call ⟨.value x,xs,ts⟩)) {fl:Bool} (hd:hdOk fl ops i l=true) (hx:ev σ x=some (.func (.func f) first cap)) (hc:callable P f=true)
  (hv:evs σ xs.toList=some vals) (hargs:first++vals.toArray++cap=args) (con:Con P f args g.h η (Ret K)) (h:∀ v η',K v η' →OD P fn n R ops k D g l ((d,v)::σ) (η' ++ζ)):ODx P fn n R ops k D g fl (i::l) σ (η++ζ) :=
 ODg.callT ho hd hx hc hv hargs con.retP (fun _ _ _ _ hX _=>hX.elim) h
theorem OD.caseB {l:List Nat} {σ:List (Nat × Value)} {η:List SProp} {b:Bool} (t:Nat) (hl:look σ t=some (.bool b)) (ht:b=true→OD P fn n R ops k D g l ((t,.bool true)::σ) η)
  (hf:b=false→OD P fn n R ops k D g l ((t,.bool false)::σ) η):OD P fn n R ops k D g l σ η:=by
 cases b
 ·exact (hf rfl).weaken (σ:=σ) (Sub.cons hl Sub.refl)
 ·exact (ht rfl).weaken (σ:=σ) (Sub.cons hl Sub.refl)
theorem OD.caseD {l:List Nat} {σ:List (Nat × Value)} {η:List SProp} {p:Prop} [Decidable p] (t:Nat) (hl:look σ t=some (.bool (decide p))) (ht:p→OD P fn n R ops k D g l ((t,.bool true)::σ) η)
  (hf:¬p→OD P fn n R ops k D g l ((t,.bool false)::σ) η):OD P fn n R ops k D g l σ η :=
 OD.caseB t hl (fun h=>ht (of_decide_eq_true h)) (fun h=>hf (of_decide_eq_false h))
theorem nodupOk_spec:∀ {l:List Nat},nodupOk l=true→l.Nodup
 |[],_=>.nil
 |i::l,h=>by
  simp only [nodupOk,Bool.and_eq_true,Bool.not_eq_true',List.contains_eq_mem,decide_eq_false_iff_not] at h;exact List.nodup_cons.2 ⟨h.1,nodupOk_spec h.2⟩
def Closed (ops:Array Oper) (listed:Array Bool):Prop :=
 ∀ i o,ops[i]?=some o→listed.getD i true=true→i<ops.size→∀ e∈o.after,binds .any e=true→listed.getD e.on false=true
theorem hangs_listed {listed:Array Bool} (hc:Closed ops listed) (hs:listed.size=ops.size) (j:Nat):∀ (f i:Nat),(∀ o,ops[i]?=some o→∀ e∈o.after,binds .any e=true→listed.getD e.on false=true)→hangsOn ops j f i=true→listed.getD j false=true
 |0,_,_,h=>by cases h
 |f+1,i,ha,h=>by
  simp only [hangsOn] at h
  cases ho:ops[i]? with
  |none=>rw [ho] at h;cases h
  |some o =>
   rw [ho] at h;obtain ⟨p,hp,hb⟩:=Array.any_eq_true.1 h;simp only [Bool.and_eq_true,Bool.or_eq_true] at hb;have he:=ha o ho o.after[p] (Array.getElem_mem hp) hb.1
   rcases hb.2 with q|q
   ·rwa [Nat.eq_of_beq_eq_true q] at he
   ·refine hangs_listed hc hs j f _ (fun o' ho' e' he' hb' =>?_) q
    have hlt:=(Array.getElem?_eq_some_iff.1 ho').1;refine hc _ o' ho' ?_ hlt e' he' hb';simp only [Array.getD_eq_getD_getElem?] at he ⊢;rw [Array.getElem?_eq_getElem (by omega)] at he ⊢
    simpa using he
theorem desc_not {listed:Array Bool} (hc:Closed ops listed) (hs:listed.size=ops.size):∀ (l acc:List Nat),descOk ops acc l=true→(∀ c∈acc,listed.getD c false=false) →
  ∀ i∈l,allocAt ops i=false→i<ops.size→i ∉ ready .any ops listed∧listed.getD i false=false
 |[],_,_,_,_,hi,_,_=>by cases hi
 |j::l,acc,h,hacc,i,hi,hna,hlt=>by
  simp only [descOk] at h
  cases hj:allocAt ops j with
  |true =>
   rw [hj] at h
   rcases List.mem_cons.1 hi with rfl|hi
   ·rw [hj] at hna;cases hna
   ·exact desc_not hc hs l acc h hacc i hi hna hlt
  |false =>
   rw [hj] at h;simp only [Bool.and_eq_true] at h;obtain ⟨h1,h2⟩:=h
   cases ho:ops[j]? with
   |none=>rw [ho] at h1;cases h1
   |some o =>
    rw [ho] at h1;obtain ⟨p,hp,hb⟩:=Array.any_eq_true.1 h1;have he:o.after[p]∈o.after:=Array.getElem_mem hp;generalize o.after[p]=e at hb he;simp only [Bool.and_eq_true,List.contains_eq_mem,decide_eq_true_eq] at hb;have hun:=hacc e.on hb.2;have hjlt:j<ops.size:=(Array.getElem?_eq_some_iff.1 ho).1;have key:j ∉ ready .any ops listed∧listed.getD j false=false:=by
     constructor
     ·intro hr
      obtain ⟨_,o',ho',hall⟩:=mem_ready.1 hr;rw [ho] at ho';cases ho';rw [hall e he hb.1] at hun;cases hun
     ·cases hl:listed.getD j false with
      |false=>rfl
      |true =>
       have hl' :listed.getD j true=true:=by
        simp only [Array.getD_eq_getD_getElem?] at hl ⊢
        cases hx:listed[j]? with
        |none=>simp
        |some y=>rw [hx] at hl;simpa using hl
       rw [hc j o ho hl' hjlt e he hb.1] at hun;cases hun
    rcases List.mem_cons.1 hi with rfl|hi
    ·exact key
    ·refine desc_not hc hs l (j::acc) h2 ?_ i hi hna hlt
     intro c hcm
     rcases List.mem_cons.1 hcm with rfl|hcm
     ·exact key.2
     ·exact hacc c hcm
def Agrees (ops:Array Oper) (o:Oper) (σ:List (Nat × Value)) (a:Act):Prop:=∀ t∈slotsRead ops o,∀ u,look σ t=some u→a.tmps[t]?=some u
theorem Agrees.rho {o:Oper} {σ:List (Nat × Value)} {a:Act} (hs:∀ cs b,o.op≠.select cs b) (h:Agrees ops o σ a):∃ ρ,Knows σ ρ∧execOp a.eval o=execOp ρ o∧∀ x∈o.op.operands,a.eval x=ρ x:=by
 have key:∀ x∈o.op.operands,a.eval x=(ev σ x).getD (a.eval x):=by
  intro x hx
  cases hv:ev σ x with
  |none=>rfl
  |some v =>
   cases x with
   |tmp t =>
    have ht:t∈slotsRead ops o:=List.mem_append_left _ (List.mem_filterMap.2 ⟨.tmp t,by simpa using hx,rfl⟩);have:=h t ht v hv
    simp [Act.eval,Array.getD_eq_getD_getElem?,this]
   |const u=>simpa [ev,Act.eval] using hv
   |global g=>simpa [ev,Act.eval] using hv
   |func f=>simpa [ev,Act.eval] using hv
 exact ⟨fun x=>(ev σ x).getD (a.eval x),fun x v hv=>by simp [hv],execOp_congr o hs key,key⟩
theorem Fires.at {i d:Nat} {σ:List (Nat × Value)} {op:Op} (h:Fires ops i n σ d op) :
  ∃ o,ops[i]?=some o∧o.dst=some d∧o.op=op∧Nat.blt d n=true∧∀ a,Agrees ops o σ a→Region.wanted o (yielded ops a.tmps)=true:=by
 cases h with
 |p h =>
  obtain ⟨o,h1,h2,h3,h4,h5⟩:=opAt_spec h;exact ⟨o,h1,h2,h3,h5,fun a _=>by simp [Region.wanted,h4]⟩
 |g h hl =>
  obtain ⟨o,j,oj,hi,hdst,hop,hg,hj,ht,hb⟩:=opAtG_spec h;refine ⟨o,hi,hdst,hop,hb,fun a ha=>?_⟩;have:=ha _ (List.mem_append_right _ (by simp only [hg,hj,ht];exact List.mem_singleton.2 rfl)) _ hl
  simp [Region.wanted,hg,yielded,hj,ht,this]
def Pend (P:Program) (ops:Array Oper) (n:Nat) (_:List Deferred) (g:Gr) (σ:List (Nat × Value)) (i:Nat):Prop :=
 ∃ o d v,ops[i]?=some o∧o.dst=some d∧Nat.blt d n=true∧look σ d=some v ∧
  ∀ (a:Act) (w:World) (η:List SProp) (Kc:Act→World→Prop) (Q:Exit→Act→World→Prop),Holds w g η→Agrees ops o σ a →
   (∀ w',Holds w' g η→Kc (a.put (some d) v) w')→wpOp P ops Q i Kc a w
theorem look_ne {d t:Nat} {v:Value} {σ:List (Nat × Value)} (h:t≠d):look ((d,v)::σ) t=look σ t:=by
 simp only [look]
 split
 ·rename_i hb;exact (h (Nat.eq_of_beq_eq_true hb).symm).elim
 ·rfl
theorem look_eq {d:Nat} {v:Value} {σ:List (Nat × Value)}:look ((d,v)::σ) d=some v:=by simp [look]
theorem Agrees.ext {o:Oper} {σ:List (Nat × Value)} {a:Act} {d:Nat} {v:Value} (hn:d ∉ slotsRead ops o):Agrees ops o ((d,v)::σ) a↔Agrees ops o σ a:=by
 constructor
 ·intro h t ht u hu;exact h t ht u (by rw [look_ne (by rintro rfl;exact hn ht)];exact hu)
 ·intro h t ht u hu;exact h t ht u (by rwa [look_ne (by rintro rfl;exact hn ht)] at hu)
theorem Pend.ext {σ:List (Nat × Value)} {i d:Nat} {v:Value} (h:Pend P ops n D g σ i) (hn:∀ o,ops[i]?=some o→d ∉ slotsRead ops o∧o.dst≠some d):Pend P ops n D g ((d,v)::σ) i:=by
 obtain ⟨o,d',v',h1,h2,h3,h4,h5⟩:=h;obtain ⟨n1,n2⟩:=hn o h1;have hne:d' ≠d:=by rintro rfl;exact n2 h2
 exact ⟨o,d',v',h1,h2,h3,by rw [look_ne hne];exact h4,fun a w η Kc Q hw ha hk=>h5 a w η Kc Q hw ((Agrees.ext n1).1 ha) hk⟩
theorem Pend.quiet {i d:Nat} {op:Op} {v:Value} {σ:List (Nat × Value)} (hsel:Region.noSelect ops=true) (ho:Fires ops i n σ d op) (hdo:∀ η,Does P op σ g η v η)
  (hn:∀ o,ops[i]?=some o→d ∉ slotsRead ops o):Pend P ops n D g ((d,v)::σ) i:=by
 obtain ⟨o,hi,hdst,hop,hb,hw⟩:=ho.at;refine ⟨o,d,v,hi,hdst,hb,look_eq,fun a w η Kc Q hh ha hk=>?_⟩;have ha:=(Agrees.ext (hn o hi)).1 ha;obtain ⟨ρ,hkn,he,_⟩:=ha.rho (fun cs b=>Region.noSelect_spec hsel i o cs b hi);obtain ⟨w',hrun,hw'⟩:=hdo η o ρ w hop hkn hh;simp only [wpOp,hi,hw a ha,if_true];refine .inl ?_;unfold Oper.wp;rw [he,hrun,Oper.upon_value,hdst];exact hk w' hw'
theorem Pend.no {i d t:Nat} {op:Op} {b:Bool} {σ:List (Nat × Value)} {v:Value} (ho:opAtG ops i n=some (d,op,t,b)) (hl:look σ t=some v) (hvb:notB b v=true)
  (hn:∀ o,ops[i]?=some o→d ∉ slotsRead ops o):Pend P ops n D g ((d,undef)::σ) i:=by
 obtain ⟨o,j,oj,hi,hdst,hop,hg,hj,ht,hb⟩:=opAtG_spec ho;refine ⟨o,d,undef,hi,hdst,hb,look_eq,fun a w η Kc Q hh ha hk=>?_⟩;have ha:=(Agrees.ext (hn o hi)).1 ha;have:=ha _ (List.mem_append_right _ (by simp only [hg,hj,ht];exact List.mem_singleton.2 rfl)) _ hl;have hw:Region.wanted o (yielded ops a.tmps)=false:=by
  cases v<;>simp [Region.wanted,hg,yielded,hj,ht,this]
  cases b<;>simp_all [notB]
 simp only [wpOp,hi,hw,Bool.false_eq_true,if_false,hdst];exact hk w hh
def atomOf (P:Program) (ops:Array Oper) (x:Nat × Nat):SProp :=
 match ops[x.1]? with
 |some o=>match o.op with|.alloc T=>obj x.2 T (((zeroOf P T).map (·.cells.toList)).getD [])|_=>fun _=>True
 |none=>fun _=>True
structure Inv (P:Program) (ops:Array Oper) (n:Nat) (D:List Deferred) (g:Gr) (listed:Array Bool) (dn l0:List Nat) (σ:List (Nat × Value)) (η:List SProp) (a:Act) (w:World) (X:List (Nat × Nat)):Prop where
 size:listed.size=ops.size
 closed:Closed ops listed
 x1:∀ x∈X,x.1∈l0∧listed.getD x.1 false=true∧∃ o d,ops[x.1]?=some o∧isAlloc o.op=true∧o.dst=some d∧a.tmps[d]?=some (.pointer (some ⟨x.2,0,none⟩))
 x2:∀ i∈l0,listed.getD i false=true→∃ b,(i,b)∈X
 xn:(X.map (·.1)).Nodup
 pend:∀ i∈dn,listed.getD i false=false→Pend P ops n D g σ i
 len:a.tmps.size=n
 defers:a.defers=D
 wk:∀ j∈dn,listed.getD j false=false→strongB ops j=true
 frame:∀ t v,look σ t=some v→(∀ j o,ops[j]?=some o→o.dst=some t→(listed.getD j false=true↔j∈dn))→a.tmps[t]?=some v
 holds:Holds w g (X.map (atomOf P ops)++η)
structure Ok (P:Program) (n:Nat) (ops:Array Oper) (l0:List Nat):Prop where
 nodup:l0.Nodup
 all:∀ i,i<ops.size→i∈l0
 lt:∀ i∈l0,i<ops.size
 after:∀ (dn:List Nat) (i:Nat) (l:List Nat),l0=dn++i::l→∀ o,ops[i]?=some o→∀ e∈o.after,binds .any e=true→e.on∈dn
 reads:∀ (i:Nat) (o:Oper) (j:Nat) (oj:Oper) (d:Nat),ops[i]?=some o→ops[j]?=some oj→oj.dst=some d→d∈slotsRead ops o→(∃ e∈o.after,binds .any e=true∧e.on=j)∨∃ e∈oj.after,binds .any e=true∧e.on=i
 dst:∀ (i:Nat) (o:Oper) (j:Nat) (oj:Oper) (d:Nat),ops[i]?=some o→ops[j]?=some oj→o.dst=some d→oj.dst=some d→i=j
 sel:Region.noSelect ops=true
 alloc:∀ (i:Nat) (o:Oper) (T:TypeId),ops[i]?=some o→o.op=.alloc T→(∃ z,zeroOf P T=some z)∧o.guard=none∧∃ d,o.dst=some d∧Nat.blt d n=true
 strongA:∀ i,allocAt ops i=true→strongB ops i=true
 weak:∀ (dn:List Nat) (i:Nat) (l:List Nat),l0=dn++i::l→l≠[]→strongB ops i=true
theorem afterOk_spec:∀ (l dn:List Nat),afterOk ops dn l=true→∀ pre i post,l=pre++i::post→∀ o,ops[i]?=some o→∀ e∈o.after,binds .any e=true→e.on∈dn∨e.on∈pre
 |[],_,_,pre,i,post,h,_,_,_,_,_=>by cases pre<;>cases h
 |j::l,dn,h,pre,i,post,hl,o,ho,e,he,hb=>by
  simp only [afterOk,Bool.and_eq_true] at h
  cases pre with
  |nil =>
   simp only [List.nil_append,List.cons.injEq] at hl;obtain ⟨rfl,rfl⟩:=hl;have h1:=h.1;rw [ho] at h1;have:=Array.all_eq_true_iff_forall_mem.1 h1 e he
   simp [hb] at this
   exact .inl this
  |cons p pre =>
   simp only [List.cons_append,List.cons.injEq] at hl;obtain ⟨rfl,rfl⟩:=hl
   rcases afterOk_spec _ (j::dn) h.2 pre i post rfl o ho e he hb with h|h
   ·rcases List.mem_cons.1 h with h|h
    ·exact .inr (List.mem_cons.2 (.inl h))
    ·exact .inl h
   ·exact .inr (List.mem_cons_of_mem _ h)
theorem orderOk_spec {l0:List Nat} (h:orderOk P n ops l0=true):Ok P n ops l0:=by
 simp only [orderOk,Bool.and_eq_true,List.all_eq_true,decide_eq_true_eq] at h;obtain ⟨⟨⟨⟨⟨⟨⟨⟨h1,h2⟩,h3⟩,h4⟩,h5⟩,h6⟩,h7⟩,h8⟩,h9⟩:=h;simp only [allocOk,Bool.and_eq_true] at h8;obtain ⟨h8a,h8⟩:=h8;have hnd:=nodupOk_spec h1;refine ⟨hnd,?_,h3,?_,?_,?_,h7,?_,?_,?_⟩
 ·intro i hi
  simpa using h2 i (List.mem_range.2 hi)
 ·intro dn i l hl o ho e he hb
  rcases afterOk_spec l0 [] h4 dn i l hl o ho e he hb with h|h
  ·cases h
  ·exact h
 ·intro i o j oj d ho hoj hd hm
  have hi:i<ops.size:=(Array.getElem?_eq_some_iff.1 ho).1;have hj:j<ops.size:=(Array.getElem?_eq_some_iff.1 hoj).1;have:=List.all_eq_true.1 h5 i (List.mem_range.2 hi);rw [ho] at this;have:=List.all_eq_true.1 (List.all_eq_true.1 this d hm) j (List.mem_range.2 hj);simp only [hoj,hd,bne_self_eq_false,Bool.false_or,Bool.or_eq_true] at this
  rcases this with this|this
  ·obtain ⟨p,hp,hb⟩:=Array.any_eq_true.1 this
   simp only [Bool.and_eq_true,beq_iff_eq] at hb;exact .inl ⟨o.after[p],Array.getElem_mem hp,hb.1,hb.2⟩
  ·obtain ⟨p,hp,hb⟩:=Array.any_eq_true.1 this
   simp only [Bool.and_eq_true,beq_iff_eq] at hb;exact .inr ⟨oj.after[p],Array.getElem_mem hp,hb.1,hb.2⟩
 ·intro i o j oj d ho hoj hd hdj
  have hi:i<ops.size:=(Array.getElem?_eq_some_iff.1 ho).1;have hj:j<ops.size:=(Array.getElem?_eq_some_iff.1 hoj).1;have:=List.all_eq_true.1 (List.all_eq_true.1 h6 i (List.mem_range.2 hi)) j (List.mem_range.2 hj);simp only [ho,hoj,hd,hdj] at this
  simpa using this
 ·intro i o T ho hT
  have:=Array.all_eq_true_iff_forall_mem.1 h8 o (Array.mem_of_getElem? ho);rw [hT] at this;simp only [Bool.and_eq_true,Option.isSome_iff_exists,Option.isNone_iff_eq_none] at this;obtain ⟨⟨h1,h2⟩,h3⟩:=this;refine ⟨h1,h2,?_⟩
  cases hd:o.dst with
  |none=>rw [hd] at h3;cases h3
  |some d=>rw [hd] at h3;exact ⟨d,rfl,h3⟩
 ·intro i hi
  by_cases hlt:i<ops.size
  ·have:=List.all_eq_true.1 h8a i (List.mem_range.2 hlt)
   simpa [hi] using this
  ·simp [strongB,Array.getElem?_eq_none (Nat.le_of_not_lt hlt)]
 ·intro dn i l hl hne
  refine h9 i ?_;rw [hl,List.dropLast_append_of_ne_nil (by simp),List.dropLast_cons_of_ne_nil hne];simp
theorem strongB_spec {i:Nat} {oi:Oper} {d:Nat} (h:strongB ops i=true) (hi:ops[i]?=some oi) (hd:oi.dst=some d):∀ (j:Nat) (o:Oper),ops[j]?=some o→d∈slotsRead ops o→∃ e∈o.after,binds .any e=true∧e.on=i:=by
 intro j o ho hm
 simp only [strongB,hi,hd] at h;have:=List.all_eq_true.1 h j (List.mem_range.2 (Array.getElem?_eq_some_iff.1 ho).1);simp only [ho,List.contains_eq_mem,Bool.or_eq_true,Bool.not_eq_true',decide_eq_false_iff_not,hm,not_true_eq_false,false_or] at this;obtain ⟨p,hp,hb⟩:=Array.any_eq_true.1 this;simp only [Bool.and_eq_true,beq_iff_eq] at hb;exact ⟨o.after[p],Array.getElem_mem hp,hb.1,hb.2⟩
theorem getD_bool {listed:Array Bool} {i:Nat} (hi:i<listed.size) (b c:Bool):listed.getD i b=listed.getD i c:=by
 simp [Array.getD_eq_getD_getElem?,hi]
theorem Ok.fresh {l0 dn l:List Nat} {i:Nat} (hok:Ok P n ops l0) (hst:strongB ops i=true) (hl:l0=dn++i::l) {oi:Oper} {d:Nat} (hi:ops[i]?=some oi) (hd:oi.dst=some d) :
  ∀ j o,j∈dn∨j=i→ops[j]?=some o→d ∉ slotsRead ops o:=by
 intro j o hj ho hm
 obtain ⟨e,he,hb,hon⟩:=strongB_spec hst hi hd j o ho hm;have hnd:=hok.nodup;rw [hl] at hnd;have hin:i∈dn:=by
  rcases hj with hj|rfl
  ·obtain ⟨p,q,rfl⟩:=List.append_of_mem hj
   have:=hok.after p j (q++i::l) (by rw [hl];simp) o ho e he hb;rw [hon] at this
   simp [this]
  ·have:=hok.after dn j l hl o ho e he hb
   rwa [hon] at this
 rw [List.nodup_append] at hnd;exact hnd.2.2 i hin i (by simp) rfl
theorem Closed.set {listed:Array Bool} {i:Nat} {o:Oper} (hc:Closed ops listed) (ho:ops[i]?=some o) (hr:i∈ready .any ops listed):Closed ops (listed.setIfInBounds i true):=by
 intro j oj hj hl hlt e he hb
 by_cases hij:i=j
 ·subst hij
  rw [ho] at hj;cases hj;obtain ⟨_,o',ho',hall⟩:=mem_ready.1 hr;rw [ho] at ho';cases ho';exact getD_set_true (hall e he hb)
 ·rw [getD_set_ne true hij] at hl
  exact getD_set_true (hc j oj hj hl hlt e he hb)
theorem Inv.done {listed:Array Bool} {dn l0:List Nat} {σ:List (Nat × Value)} {η:List SProp} {a:Act} {w w' :World} {X:List (Nat × Nat)} {i d:Nat} {o:Oper} {v:Value} {L:List Nat} (hok:Ok P n ops L) (hL:L=dn++l0)
  (hv:Inv P ops n D g listed dn l0 σ η a w X) (hr:i∈ready .any ops listed) (hi:ops[i]?=some o) (hd:o.dst=some d) (hb:Nat.blt d n=true) (hm:i∈dn) (hl:look σ d=some v)
  (hw:Holds w' g (X.map (atomOf P ops)++η)):Inv P ops n D g (listed.setIfInBounds i true) dn l0 σ η (a.put (some d) v) w' X:=by
 have hdn:Nat.blt d n=true:=hb;have hdl:d<a.tmps.size:=by rw [hv.len];exact of_decide_eq_true (by simpa [Nat.blt_eq] using hdn)
 have hil:i<listed.size:=by rw [hv.size];exact (Array.getElem?_eq_some_iff.1 hi).1
 have hnd:=hok.nodup;rw [hL,List.nodup_append] at hnd;have hget:∀ t,t≠d→(a.put (some d) v).tmps[t]?=a.tmps[t]?:=fun t ht=>by simp [Act.put,Array.getElem?_setIfInBounds_ne (Ne.symm ht)]
 refine ⟨by simp [hv.size],hv.closed.set hi hr,?_,?_,hv.xn,?_,by simp [Act.put,hv.len],by simpa [Act.put] using hv.defers,?_,?_,hw⟩
 ·intro x hx
  obtain ⟨h1,h2,o',d',h3,h4,h5,h6⟩:=hv.x1 x hx;refine ⟨h1,getD_set_true h2,o',d',h3,h4,h5,?_⟩;rw [hget d' ?_];exact h6;rintro rfl;have:=hok.dst x.1 o' i o d' h3 hi h5 hd;rw [this] at h1;exact hnd.2.2 i hm i h1 rfl
 ·intro j hj hlj
  have hij:i≠j:=by rintro rfl;exact hnd.2.2 i hm i hj rfl
  rw [getD_set_ne false hij] at hlj;exact hv.x2 j hj hlj
 ·intro j hj hlj
  by_cases hij:i=j
  ·subst hij
   simp [hil] at hlj
  ·rw [getD_set_ne false hij] at hlj
   exact hv.pend j hj hlj
 ·intro j hj hlj
  by_cases hij:i=j
  ·subst hij
   simp [hil] at hlj
  ·rw [getD_set_ne false hij] at hlj
   exact hv.wk j hj hlj
 ·intro t u hu hall
  by_cases ht:t=d
  ·subst ht
   rw [hl] at hu;cases hu
   simp [Act.put,Array.getElem?_setIfInBounds_self_of_lt hdl]
  ·rw [hget t ht]
   refine hv.frame t u hu fun j oj hj hdj=>?_;have q1:=hall j oj hj hdj;have hij:i≠j:=by rintro rfl;rw [hi] at hj;cases hj;rw [hd] at hdj;cases hdj;exact ht rfl
   rwa [getD_set_ne false hij] at q1
theorem Inv.wait {listed:Array Bool} {dn l:List Nat} {σ:List (Nat × Value)} {η:List SProp} {a:Act} {w:World} {X:List (Nat × Nat)} {i d:Nat} {o:Oper} {v:Value} {L:List Nat} (hok:Ok P n ops L) (hL:L=dn++i::l)
  (hst:strongB ops i=true)
  (hv:Inv P ops n D g listed dn (i::l) σ η a w X) (hi:ops[i]?=some o) (hd:o.dst=some d) (hu:listed.getD i false=false) (hp:Pend P ops n D g ((d,v)::σ) i) :
  Inv P ops n D g listed (dn++[i]) l ((d,v)::σ) η a w X:=by
 have hfr:=hok.fresh hst hL hi hd;refine ⟨hv.size,hv.closed,?_,fun j hj=>hv.x2 j (List.mem_cons_of_mem _ hj),hv.xn,?_,hv.len,hv.defers,?_,?_,hv.holds⟩
 ·intro x hx
  obtain ⟨h1,h2,h3⟩:=hv.x1 x hx
  rcases List.mem_cons.1 h1 with h|h
  ·rw [h] at h2;rw [hu] at h2;cases h2
  ·exact ⟨h,h2,h3⟩
 ·intro j hj hlj
  rcases List.mem_append.1 hj with hj' |hj
  ·refine (hv.pend j hj' hlj).ext fun oj hoj=>⟨hfr j oj (.inl hj') hoj,fun h=>?_⟩
   have:=hok.dst j oj i o d hoj hi h hd;subst this;have hnd:=hok.nodup;rw [hL,List.nodup_append] at hnd;exact hnd.2.2 j hj' j (by simp) rfl
  ·rw [List.mem_singleton.1 hj];exact hp
 ·intro j hj hlj
  rcases List.mem_append.1 hj with hj' |hj
  ·exact hv.wk j hj' hlj
  ·rw [List.mem_singleton.1 hj];exact hst
 ·intro t u ht hall
  by_cases htd:t=d
  ·subst htd
   have:=(hall i o hi hd).2 (by simp);rw [hu] at this;cases this
  ·rw [look_ne htd] at ht
   refine hv.frame t u ht fun j oj hj hdj=>?_;have q1:=hall j oj hj hdj;have hij:j≠i:=by rintro rfl;rw [hi] at hj;cases hj;rw [hd] at hdj;cases hdj;exact htd rfl
   simpa [hij] using q1
theorem Inv.meet {listed:Array Bool} {dn l:List Nat} {σ:List (Nat × Value)} {η:List SProp} {a:Act} {w:World} {X:List (Nat × Nat)} {i d b:Nat} {o:Oper} {T:TypeId} {z:Value} {L:List Nat} (hok:Ok P n ops L) (hL:L=dn++i::l)
  (hv:Inv P ops n D g listed dn (i::l) σ η a w X) (hi:ops[i]?=some o) (hd:o.dst=some d) (hop:o.op=.alloc T) (hz:zeroOf P T=some z) (hx:(i,b)∈X) :
  ∃ X',Inv P ops n D g listed (dn++[i]) l ((d,.pointer (some ⟨b,0,none⟩))::σ) (obj b T z.cells.toList::η) a w X' :=by
 obtain ⟨X1,X2,rfl⟩:=List.append_of_mem hx;have hfr:=hok.fresh (hok.strongA i (by simp [allocAt,hi,hop,isAlloc])) hL hi hd;have hnd:=hok.nodup;rw [hL,List.nodup_append] at hnd;have hxn:=hv.xn;simp only [List.map_append,List.map_cons,List.nodup_append,List.nodup_cons] at hxn;refine ⟨X1++X2,hv.size,hv.closed,?_,?_,?_,?_,hv.len,hv.defers,?_,?_,?_⟩
 ·intro x hxm
  have hxm' :x∈X1++(i,b)::X2:=by simp only [List.mem_append,List.mem_cons] at hxm ⊢;rcases hxm with h|h<;>simp [h]
  obtain ⟨h1,h2,h3⟩:=hv.x1 x hxm';refine ⟨?_,h2,h3⟩
  rcases List.mem_cons.1 h1 with h|h
  ·exfalso
   rcases List.mem_append.1 hxm with q|q
   ·exact hxn.2.2 _ (List.mem_map.2 ⟨x,q,rfl⟩) i (by simp) h
   ·exact hxn.2.1.1 (h ▸ List.mem_map.2 ⟨x,q,rfl⟩)
  ·exact h
 ·intro j hj hlj
  obtain ⟨b',hb'⟩:=hv.x2 j (List.mem_cons_of_mem _ hj) hlj;refine ⟨b',?_⟩;simp only [List.mem_append,List.mem_cons] at hb' ⊢
  rcases hb' with h|h|h
  ·exact .inl h
  ·cases h;exact ((List.nodup_cons.1 hnd.2.1).1 hj).elim
  ·exact .inr h
 ·simp only [List.map_append,List.nodup_append]
  exact ⟨hxn.1,hxn.2.1.2,fun p hp q hq=>hxn.2.2 p hp q (List.mem_cons_of_mem _ hq)⟩
 ·intro j hj hlj
  rcases List.mem_append.1 hj with hj' |hj
  ·refine (hv.pend j hj' hlj).ext fun oj hoj=>⟨hfr j oj (.inl hj') hoj,fun h=>?_⟩
   have:=hok.dst j oj i o d hoj hi h hd;subst this;exact hnd.2.2 j hj' j (by simp) rfl
  ·rw [List.mem_singleton.1 hj] at hlj
   rw [(hv.x1 _ hx).2.1] at hlj;cases hlj
 ·intro j hj hlj
  rcases List.mem_append.1 hj with hj' |hj
  ·exact hv.wk j hj' hlj
  ·rw [List.mem_singleton.1 hj] at hlj
   rw [(hv.x1 _ hx).2.1] at hlj;cases hlj
 ·intro t u ht hall
  by_cases htd:t=d
  ·subst htd
   rw [look_eq] at ht;cases ht;obtain ⟨_,_,o',d',h3,_,h5,h6⟩:=hv.x1 _ hx;rw [hi] at h3;cases h3;rw [hd] at h5;cases h5;exact h6
  ·rw [look_ne htd] at ht
   refine hv.frame t u ht fun j oj hj hdj=>?_;have q1:=hall j oj hj hdj;have hij:j≠i:=by rintro rfl;rw [hi] at hj;cases hj;rw [hd] at hdj;cases hdj;exact htd rfl
   simpa [hij] using q1
 ·have e:atomOf P ops (i,b)=obj b T z.cells.toList:=by simp [atomOf,hi,hop,hz]
  refine hv.holds.perm ?_;simp only [List.map_append,List.map_cons,e,List.append_assoc,List.cons_append];exact List.Perm.append_left _ List.perm_middle.symm
theorem Inv.step {listed:Array Bool} {dn l:List Nat} {σ σ' :List (Nat × Value)} {η η' :List SProp} {a a' :Act} {w w' :World} {X:List (Nat × Nat)} {i:Nat} {o:Oper} {L:List Nat} (hok:Ok P n ops L) (hL:L=dn++i::l)
  (hv:Inv P ops n D g listed dn (i::l) σ η a w X) (hr:i∈ready .any ops listed) (hi:ops[i]?=some o)
  (hd:(o.dst=none∧σ' =σ∧a' =a)∨∃ d v,o.dst=some d∧Nat.blt d n=true∧σ' =(d,v)::σ∧a' =a.put (some d) v)
  (hw:Holds w' g (X.map (atomOf P ops)++η')):Inv P ops n D g (listed.setIfInBounds i true) (dn++[i]) l σ' η' a' w' X:=by
 have hil:i<listed.size:=by rw [hv.size];exact (Array.getElem?_eq_some_iff.1 hi).1
 have hu:listed.getD i false=false:=by rw [getD_bool hil false true];exact (mem_ready.1 hr).1
 have hnd:=hok.nodup;rw [hL,List.nodup_append] at hnd;have hni:i ∉ l:=(List.nodup_cons.1 hnd.2.1).1;have hx1:∀ x∈X,x.1∈l:=fun x hx=>by
  obtain ⟨h1,h2,_⟩:=hv.x1 x hx
  rcases List.mem_cons.1 h1 with h|h
  ·rw [h,hu] at h2;cases h2
  ·exact h
 refine ⟨by simp [hv.size],hv.closed.set hi hr,?_,?_,hv.xn,?_,?_,?_,?_,?_,hw⟩
 ·intro x hx
  obtain ⟨h1,h2,o',d',h3,h4,h5,h6⟩:=hv.x1 x hx;refine ⟨hx1 x hx,getD_set_true h2,o',d',h3,h4,h5,?_⟩
  rcases hd with ⟨_,_,rfl⟩|⟨d,v,hd,hb,_,rfl⟩
  ·exact h6
  ·have:d' ≠d:=by
    rintro rfl;have:=hok.dst x.1 o' i o d' h3 hi h5 hd;exact hni (this ▸ hx1 x hx)
   simp only [Act.put,Array.getElem?_setIfInBounds_ne (Ne.symm this)];exact h6
 ·intro j hj hlj
  have hij:i≠j:=by rintro rfl;exact hni hj
  rw [getD_set_ne false hij] at hlj;exact hv.x2 j (List.mem_cons_of_mem _ hj) hlj
 ·intro j hj hlj
  have hij:i≠j:=by rintro rfl;simp [hil] at hlj
  rw [getD_set_ne false hij] at hlj;have hjd:j∈dn:=by
   rcases List.mem_append.1 hj with h|h
   ·exact h
   ·exact (hij (List.mem_singleton.1 h).symm).elim
  have hp:=hv.pend j hjd hlj
  rcases hd with ⟨_,rfl,_⟩|⟨d,v,hd,hb,rfl,_⟩
  ·exact hp
  ·refine hp.ext fun oj hoj=>⟨fun hm=>?_,fun h=>?_⟩
   ·rcases hok.reads j oj i o d hoj hi hd hm with ⟨e,he,hb,hon⟩|⟨e,he,hb,hon⟩
    ·obtain ⟨p,q,rfl⟩:=List.append_of_mem hjd
     have:=hok.after p j (q++i::l) (by rw [hL];simp) oj hoj e he hb;rw [hon] at this;exact hnd.2.2 i (by simp [this]) i (by simp) rfl
    ·obtain ⟨_,o',ho',hall⟩:=mem_ready.1 hr
     rw [hi] at ho';cases ho';have:=hall e he hb;rw [hon,hlj] at this;cases this
   ·have:=hok.dst j oj i o d hoj hi h hd
    exact hij this.symm
 ·rcases hd with ⟨_,_,rfl⟩|⟨d,v,hd,hb,_,rfl⟩
  ·exact hv.len
  ·simp [Act.put,hv.len]
 ·rcases hd with ⟨_,_,rfl⟩|⟨d,v,hd,hb,_,rfl⟩
  ·exact hv.defers
  ·simpa [Act.put] using hv.defers
 ·intro j hj hlj
  have hij:i≠j:=by rintro rfl;simp [hil] at hlj
  rw [getD_set_ne false hij] at hlj
  rcases List.mem_append.1 hj with h|h
  ·exact hv.wk j h hlj
  ·exact (hij (List.mem_singleton.1 h).symm).elim
 ·intro t u ht hall
  have hsub:∀ j oj,ops[j]?=some oj→oj.dst=some t→i≠j→(listed.getD j false=true↔j∈dn):=fun j oj hj hdj hij=>by
   have q1:=hall j oj hj hdj;rw [getD_set_ne false hij] at q1
   simpa [Ne.symm hij] using q1
  rcases hd with ⟨hn,rfl,rfl⟩|⟨d,v,hd,hb,rfl,rfl⟩
  ·exact hv.frame t u ht fun j oj hj hdj=>hsub j oj hj hdj (by rintro rfl;rw [hi] at hj;cases hj;rw [hn] at hdj;cases hdj)
  ·have hdl:d<a.tmps.size:=by rw [hv.len];exact of_decide_eq_true (by simpa [Nat.blt_eq] using hb)
   by_cases htd:t=d
   ·subst htd
    rw [look_eq] at ht;cases ht
    simp [Act.put,Array.getElem?_setIfInBounds_self_of_lt hdl]
   ·rw [look_ne htd] at ht
    simp only [Act.put,Array.getElem?_setIfInBounds_ne (Ne.symm htd)];exact hv.frame t u ht fun j oj hj hdj=>hsub j oj hj hdj (by rintro rfl;rw [hi] at hj;cases hj;rw [hd] at hdj;cases hdj;exact htd rfl)
theorem Inv.early {listed:Array Bool} {dn l0:List Nat} {σ:List (Nat × Value)} {η:List SProp} {a:Act} {w:World} {X:List (Nat × Nat)} {i d:Nat} {o:Oper} {T:TypeId} {z:Value} {L:List Nat} (hok:Ok P n ops L) (hL:L=dn++l0)
  (hv:Inv P ops n D g listed dn l0 σ η a w X) (hr:i∈ready .any ops listed) (hm:i∈l0) (hi:ops[i]?=some o) (hop:o.op=.alloc T) (hz:zeroOf P T=some z) (hd:o.dst=some d) (hb:Nat.blt d n=true) :
  Inv P ops n D g (listed.setIfInBounds i true) dn l0 σ η (a.put (some d) (.pointer (some ⟨w.heap.size,0,none⟩))) (w.alloc (.cells z.cells T)) ((i,w.heap.size)::X):=by
 have hil:i<listed.size:=by rw [hv.size];exact (Array.getElem?_eq_some_iff.1 hi).1
 have hu:listed.getD i false=false:=by rw [getD_bool hil false true];exact (mem_ready.1 hr).1
 have hdl:d<a.tmps.size:=by rw [hv.len];exact of_decide_eq_true (by simpa [Nat.blt_eq] using hb)
 have hnd:=hok.nodup;rw [hL,List.nodup_append] at hnd;have hxi:∀ x∈X,x.1≠i:=fun x hx h=>by
  obtain ⟨_,h2,_⟩:=hv.x1 x hx;rw [h,hu] at h2;cases h2
 refine ⟨by simp [hv.size],hv.closed.set hi hr,?_,?_,?_,?_,by simp [Act.put,hv.len],by simpa [Act.put] using hv.defers,?_,?_,?_⟩
 ·intro x hx
  rcases List.mem_cons.1 hx with rfl|hx
  ·exact ⟨hm,by simp [hil],o,d,hi,by simp [hop,isAlloc],hd,by simp [Act.put,Array.getElem?_setIfInBounds_self_of_lt hdl]⟩
  ·obtain ⟨h1,h2,o',d',h3,h4,h5,h6⟩:=hv.x1 x hx
   refine ⟨h1,getD_set_true h2,o',d',h3,h4,h5,?_⟩;have:d' ≠d:=by
    rintro rfl;exact hxi x hx (hok.dst x.1 o' i o d' h3 hi h5 hd)
   simp only [Act.put,Array.getElem?_setIfInBounds_ne (Ne.symm this)];exact h6
 ·intro j hj hlj
  by_cases hij:i=j
  ·subst hij;exact ⟨_,List.mem_cons_self ..⟩
  ·rw [getD_set_ne false hij] at hlj
   obtain ⟨b,hb⟩:=hv.x2 j hj hlj;exact ⟨b,List.mem_cons_of_mem _ hb⟩
 ·simp only [List.map_cons,List.nodup_cons]
  refine ⟨fun h=>?_,hv.xn⟩;obtain ⟨x,hx,hxe⟩:=List.mem_map.1 h;exact hxi x hx hxe
 ·intro j hj hlj
  have hij:i≠j:=by rintro rfl;simp [hil] at hlj
  rw [getD_set_ne false hij] at hlj;exact hv.pend j hj hlj
 ·intro j hj hlj
  have hij:i≠j:=by rintro rfl;simp [hil] at hlj
  rw [getD_set_ne false hij] at hlj;exact hv.wk j hj hlj
 ·intro t u ht hall
  have htd:t≠d:=by
   rintro rfl;exact hnd.2.2 i ((hall i o hi hd).1 (by simp [hil])) i hm rfl
  simp only [Act.put,Array.getElem?_setIfInBounds_ne (Ne.symm htd)];refine hv.frame t u ht fun j oj hj hdj=>?_;have q1:=hall j oj hj hdj;have hij:i≠j:=by rintro rfl;rw [hi] at hj;cases hj;rw [hd] at hdj;cases hdj;exact htd rfl
  rwa [getD_set_ne false hij] at q1
 ·have e:atomOf P ops (i,w.heap.size)=obj w.heap.size T z.cells.toList:=by simp [atomOf,hi,hop,hz]
  simp only [List.map_cons,e,List.cons_append];exact hv.holds.allocObj T z.cells
def left (ops:Array Oper) (listed:Array Bool):Nat:=((List.range ops.size).filter fun i=>!listed.getD i true).length
theorem left_set {listed:Array Bool} {i:Nat} (hs:listed.size=ops.size) (hi:i<ops.size) (hu:listed.getD i true=false):left ops (listed.setIfInBounds i true)<left ops listed:=by
 unfold left;have hsub:((List.range ops.size).filter fun j=>!(listed.setIfInBounds i true).getD j true)=((List.range ops.size).filter fun j=>!listed.getD j true).filter (· !=i):=by
  rw [List.filter_filter]
  apply List.filter_congr
  intro j hj
  by_cases hij:i=j
  ·subst hij
   have:i<listed.size:=by omega
   simp [this]
  ·rw [getD_set_ne true hij]
   have:(j !=i)=true:=by simpa using Ne.symm hij
   simp [this]
 rw [hsub];have hmem:i∈(List.range ops.size).filter fun j=>!listed.getD j true:=List.mem_filter.2 ⟨List.mem_range.2 hi,by rw [hu];rfl⟩;obtain ⟨p,q,hpq⟩:=List.append_of_mem hmem;rw [hpq,List.filter_append,List.filter_cons];simp only [bne_self_eq_false,Bool.false_eq_true,if_false,List.length_append,List.length_cons];have:=List.length_filter_le (· !=i) p;have:=List.length_filter_le (· !=i) q
 omega
theorem left_zero {listed:Array Bool} (h:left ops listed=0):∀ i,i<ops.size→listed.getD i true=true:=by
 intro i hi
 cases hl:listed.getD i true with
 |true=>rfl
 |false =>
  have hmem:i∈(List.range ops.size).filter fun j=>!listed.getD j true:=List.mem_filter.2 ⟨List.mem_range.2 hi,by rw [hl];rfl⟩;unfold left at h;rw [List.eq_nil_of_length_eq_zero h] at hmem
  cases hmem
theorem Fires.op_at {i d:Nat} {σ:List (Nat × Value)} {op:Op} (h:Fires ops i n σ d op):∃ o,ops[i]?=some o∧o.op=op∧o.dst=some d∧Nat.blt d n=true:=by
 obtain ⟨o,h1,h2,h3,h4,_⟩:=h.at;exact ⟨o,h1,h3,h2,h4⟩
theorem erase_split {l q r:List Nat} {i j:Nat} (hi:i∈l) (h:l.erase i=q++j::r):∃ p t,l=p++j::t∧∀ x∈p,x=i∨x∈q:=by
 obtain ⟨l1,l2,hn,rfl,he⟩:=List.exists_erase_eq hi;rw [he] at h
 rcases List.append_eq_append_iff.1 h with ⟨t,h1,h2⟩|⟨t,h1,h2⟩
 ·
  refine ⟨l1++i::t,r,by rw [h2];simp,fun x hx=>?_⟩
  rcases List.mem_append.1 hx with hx|hx
  ·exact .inr (by rw [h1];simp [hx])
  ·rcases List.mem_cons.1 hx with rfl|hx
   ·exact .inl rfl
   ·exact .inr (by rw [h1];simp [hx])
 ·
  cases t with
  |nil =>
   simp only [List.nil_append,List.append_nil] at h1 h2;refine ⟨l1++[i],r,by rw [← h2];simp,fun x hx=>?_⟩
   rcases List.mem_append.1 hx with hx|hx
   ·exact .inr (h1 ▸ hx)
   ·exact .inl (List.mem_singleton.1 hx)
  |cons y t =>
   simp only [List.cons_append,List.cons.injEq] at h2;obtain ⟨rfl,rfl⟩:=h2;exact ⟨q,t++i::l2,by rw [h1];simp,fun x hx=>.inr hx⟩
theorem last_app {l1 l2:List Nat} (h:l2≠[]):(l1++l2).getLast?=l2.getLast?:=by
 rw [List.getLast?_append,List.getLast?_eq_some_getLast h];rfl
theorem Ok.move {L dn l:List Nat} {i:Nat} (hok:Ok P n ops L) (hst:strongB ops i=true) (hL:L=dn++l) (hi:i∈l) (ha:∀ o,ops[i]?=some o→∀ e∈o.after,binds .any e=true→e.on ∉ l):Ok P n ops (dn++i::l.erase i):=by
 have hp:(dn++i::l.erase i).Perm L:=by rw [hL];exact (List.perm_cons_erase hi).symm.append_left dn
 have hnd:=hok.nodup;refine ⟨hp.nodup_iff.2 hok.nodup,fun j hj=>hp.mem_iff.2 (hok.all j hj),fun j hj=>hok.lt j (hp.mem_iff.1 hj),?_,hok.reads,hok.dst,hok.sel,hok.alloc,hok.strongA,?_⟩
 rotate_left
 ·intro dn' j l' h hne
  by_cases hji:j=i
  ·subst hji;exact hst
  have hj:j∈L:=hp.mem_iff.1 (by rw [h];simp);obtain ⟨p,q,hpq⟩:=List.append_of_mem hj
  by_cases hq:q=[]
  ·exfalso
   subst hq;have hlast:L.getLast?=some j:=by rw [hpq];simp
   rw [hL] at hlast hnd;have hjl:j∈l:=by
    have hne:l≠[]:=List.ne_nil_of_mem hi;rw [last_app hne] at hlast;exact List.mem_of_getLast? hlast
   have hle:(l.erase i).getLast?=some j:=by
    have hne:l≠[]:=List.ne_nil_of_mem hi;rw [last_app hne] at hlast;obtain ⟨l1,l2,hn,he1,he2⟩:=List.exists_erase_eq hi;rw [he2];rw [he1] at hlast
    cases l2 with
    |nil=>rw [last_app (by simp)] at hlast;simp at hlast;exact (hji hlast.symm).elim
    |cons y l2 =>
     rw [last_app (by simp)] at hlast ⊢;rw [List.getLast?_cons_cons] at hlast;exact hlast
   have h2:(dn++i::l.erase i).getLast?=some j:=by
    have hne2:l.erase i≠[]:=by intro h0;rw [h0] at hle;cases hle
    rw [last_app (by simp)]
    cases hle2:l.erase i with
    |nil=>exact (hne2 hle2).elim
    |cons y z=>rw [List.getLast?_cons_cons,← hle2];exact hle
   rw [h,last_app (by simp)] at h2;have h3:j∈l' :=by
    cases l' with
    |nil=>exact (hne rfl).elim
    |cons y z=>rw [List.getLast?_cons_cons] at h2;exact List.mem_of_getLast? h2
   have hnd2:=hp.nodup_iff.2 hok.nodup;rw [h,List.nodup_append] at hnd2;exact (List.nodup_cons.1 hnd2.2.1).1 h3
  ·exact hok.weak p j q hpq hq
 intro dn' j l' h o ho e he hb
 have hin:e.on∈L:=by
  have hj:j∈L:=hp.mem_iff.1 (by rw [h];simp);obtain ⟨p,q,hpq⟩:=List.append_of_mem hj;have:=hok.after p j q hpq o ho e he hb;rw [hpq];simp [this]
 rcases List.append_eq_append_iff.1 h with ⟨t,h1,h2⟩|⟨t,h1,h2⟩
 ·
  cases t with
  |nil =>
   simp only [List.nil_append,List.cons.injEq] at h2;obtain ⟨rfl,_⟩:=h2;simp only [List.append_nil] at h1;rw [hL] at hin
   rcases List.mem_append.1 hin with q|q
   ·rw [h1];exact q
   ·exact (ha o ho e he hb q).elim
  |cons y t =>
   simp only [List.cons_append,List.cons.injEq] at h2;obtain ⟨rfl,h2⟩:=h2;obtain ⟨p,u,hl,hx⟩:=erase_split hi h2;have:=hok.after (dn++p) j u (by rw [hL,hl];simp) o ho e he hb;rw [h1]
   rcases List.mem_append.1 this with q|q
   ·simp [q]
   ·rcases hx _ q with q|q<;>simp [q]
 ·cases t with
  |nil =>
   simp only [List.nil_append,List.cons.injEq] at h2;obtain ⟨rfl,_⟩:=h2;simp only [List.append_nil] at h1;rw [hL] at hin
   rcases List.mem_append.1 hin with q|q
   ·rw [← h1];exact q
   ·exact (ha o ho e he hb q).elim
  |cons y t =>
   simp only [List.cons_append,List.cons.injEq] at h2;obtain ⟨rfl,_⟩:=h2;exact hok.after dn' j (t++l) (by rw [hL,h1];simp) o ho e he hb
theorem Inv.move {listed:Array Bool} {dn l:List Nat} {σ:List (Nat × Value)} {η:List SProp} {a:Act} {w:World} {X:List (Nat × Nat)} {i:Nat} (hv:Inv P ops n D g listed dn l σ η a w X) (hi:i∈l):Inv P ops n D g listed dn (i::l.erase i) σ η a w X:=by
 have hp:=List.perm_cons_erase hi;exact ⟨hv.size,hv.closed,fun x hx=>let ⟨h1,h2⟩:=hv.x1 x hx;⟨hp.mem_iff.1 h1,h2⟩,fun j hj=>hv.x2 j (hp.mem_iff.2 hj),hv.xn,hv.pend,hv.len,hv.defers,hv.wk,hv.frame,hv.holds⟩
theorem altOk_spec {cands l:List Nat} (h:altOk ops cands l=true):cands≠[]∧(∀ i∈cands,i∈l∧allocAt ops i=false∧strongB ops i=true∧∀ o,ops[i]?=some o→∀ e∈o.after,binds .any e=true→e.on ∉ l)∧descOk ops cands (l.filter fun i=>!cands.contains i)=true:=by
 simp only [altOk,Bool.and_eq_true,List.all_eq_true] at h;obtain ⟨⟨h1,h2⟩,h3⟩:=h;refine ⟨fun h=>by rw [h] at h1;simp at h1,fun i hi=>?_,h3⟩;obtain ⟨⟨⟨h4,h5⟩,h7⟩,h6⟩:=h2 i hi;refine ⟨by simpa using h4,by simpa using h5,h7,fun o ho e he hb hm=>?_⟩;rw [ho] at h6;have:=Array.all_eq_true_iff_forall_mem.1 h6 e he
 simp [hb,hm] at this
theorem rowOk_spec:∀ {l:List Nat},rowOk ops l=true→∀ pre i post,l=pre++i::post→∀ o,ops[i]?=some o→∀ e∈o.after,binds .any e=true→e.on ∉ post
 |[],_,pre,i,post,h,_,_,_,_,_=>by cases pre<;>cases h
 |j::l,h,pre,i,post,hl,o,ho,e,he,hb=>by
  simp only [rowOk,Bool.and_eq_true,List.all_eq_true] at h
  cases pre with
  |nil =>
   simp only [List.nil_append,List.cons.injEq] at hl;obtain ⟨rfl,rfl⟩:=hl
   intro hm
   have h1:=h.1 e.on hm;rw [ho] at h1;have:=Array.all_eq_true_iff_forall_mem.1 h1 e he
   simp [hb] at this
  |cons p pre =>
   simp only [List.cons_append,List.cons.injEq] at hl;obtain ⟨rfl,rfl⟩:=hl;exact rowOk_spec h.2 pre i post rfl o ho e he hb
theorem permOk_spec {l l' :List Nat} (hn:l.Nodup) (h:permOk ops l l' =true):l.Perm l' ∧rowOk ops l' =true∧l.getLast?=l'.getLast?∧l' ≠[]:=by
 simp only [permOk,Bool.and_eq_true,List.all_eq_true,List.contains_eq_mem,decide_eq_true_eq,beq_iff_eq] at h;obtain ⟨⟨⟨⟨⟨h1,h2⟩,h3⟩,h4⟩,h5⟩,h6⟩:=h;refine ⟨(List.perm_ext_iff_of_nodup hn (nodupOk_spec h1)).2 fun i=>⟨h2 i,h3 i⟩,h4,h5,fun h=>by rw [h] at h6;cases h6⟩
theorem Ok.reorder {L dn l l' :List Nat} (hok:Ok P n ops L) (hL:L=dn++l) (hp:permOk ops l l' =true):Ok P n ops (dn++l'):=by
 have hnd:=hok.nodup;rw [hL,List.nodup_append] at hnd;obtain ⟨p1,p2,p3,p4⟩:=permOk_spec hnd.2.1 hp;have hpm:(dn++l').Perm L:=by rw [hL];exact p1.symm.append_left dn
 refine ⟨hpm.nodup_iff.2 hok.nodup,fun j hj=>hpm.mem_iff.2 (hok.all j hj),fun j hj=>hok.lt j (hpm.mem_iff.1 hj),?_,hok.reads,hok.dst,hok.sel,hok.alloc,hok.strongA,?_⟩
 ·intro dn' j t h o ho e he hb
  have hjL:j∈L:=hpm.mem_iff.1 (by rw [h];simp);obtain ⟨p,q,hpq⟩:=List.append_of_mem hjL;have hin:=hok.after p j q hpq o ho e he hb;have heL:e.on∈dn++l' :=hpm.mem_iff.2 (by rw [hpq];simp [hin])
  rcases List.append_eq_append_iff.1 h with ⟨u,h1,h2⟩|⟨u,h1,h2⟩
  ·
   rw [h1]
   rcases List.mem_append.1 heL with q1|q1
   ·simp [q1]
   ·have:=rowOk_spec p2 u j t h2 o ho e he hb
    rw [h2] at q1
    rcases List.mem_append.1 q1 with q1|q1
    ·simp [q1]
    ·rcases List.mem_cons.1 q1 with q1|q1
     ·exfalso
      have hnd2:=hok.nodup;rw [hpq,List.nodup_append] at hnd2;exact hnd2.2.2 e.on hin j (by simp) q1
     ·exact absurd q1 this
  ·
   cases u with
   |nil =>
    simp only [List.append_nil,List.nil_append] at h1 h2;rw [← h1]
    rcases List.mem_append.1 heL with q1|q1
    ·exact q1
    ·rw [← h2] at q1
     have:=rowOk_spec (l:=l') p2 [] j t (by rw [← h2];rfl) o ho e he hb
     rcases List.mem_cons.1 q1 with q1|q1
     ·exfalso
      have hnd2:=hok.nodup;rw [hpq,List.nodup_append] at hnd2;exact hnd2.2.2 e.on hin j (by simp) q1
     ·exact absurd q1 this
   |cons y u =>
    simp only [List.cons_append,List.cons.injEq] at h2;obtain ⟨rfl,_⟩:=h2;exact hok.after dn' j (u++l) (by rw [hL,h1];simp) o ho e he hb
 ·intro dn' j t h hne
  have hjL:j∈L:=hpm.mem_iff.1 (by rw [h];simp);obtain ⟨p,q,hpq⟩:=List.append_of_mem hjL
  by_cases hq:q=[]
  ·exfalso
   subst hq;have hlast:L.getLast?=some j:=by rw [hpq];simp
   have hl0:l≠[]:=fun h0=>by subst h0;rw [List.getLast?_nil] at p3;exact p4 (List.getLast?_eq_none_iff.1 p3.symm)
   rw [hL,last_app hl0,p3] at hlast;have h2:(dn++l').getLast?=some j:=by rw [last_app p4];exact hlast
   rw [h,last_app (by simp)] at h2;have h3:j∈t:=by
    cases t with
    |nil=>exact (hne rfl).elim
    |cons y z=>rw [List.getLast?_cons_cons] at h2;exact List.mem_of_getLast? h2
   have hnd2:=hpm.nodup_iff.2 hok.nodup;rw [h,List.nodup_append] at hnd2;exact (List.nodup_cons.1 hnd2.2.1).1 h3
  ·exact hok.weak p j q hpq hq
theorem Inv.reorder {listed:Array Bool} {dn l l' :List Nat} {σ:List (Nat × Value)} {η:List SProp} {a:Act} {w:World} {X:List (Nat × Nat)} (hv:Inv P ops n D g listed dn l σ η a w X) (hp:l.Perm l'):Inv P ops n D g listed dn l' σ η a w X :=
 ⟨hv.size,hv.closed,fun x hx=>let ⟨h1,h2⟩:=hv.x1 x hx;⟨hp.mem_iff.1 h1,h2⟩,fun j hj=>hv.x2 j (hp.mem_iff.2 hj),hv.xn,hv.pend,hv.len,hv.defers,hv.wk,hv.frame,hv.holds⟩
theorem OD.finish {fl:Bool} {l0:List Nat} {σ:List (Nat × Value)} {η:List SProp} (h:ODx P fn n R ops k D g fl l0 σ η):∀ {listed:Array Bool} {dn:List Nat} {a:Act} {w:World} {X:List (Nat × Nat)} {L:List Nat},Ok P n ops L→L=dn++l0 →
  Inv P ops n D g listed dn l0 σ η a w X→(∀ i,i<ops.size→listed.getD i true=true)→Runs none P k (Post none P fn R) a w:=by
 have absurd:∀ {listed:Array Bool} {dn l:List Nat} {σ:List (Nat × Value)} {η:List SProp} {a:Act} {w:World} {X:List (Nat × Nat)} {i:Nat} {o:Oper},Inv P ops n D g listed dn (i::l) σ η a w X→(∀ i,i<ops.size→listed.getD i true=true) →
   ops[i]?=some o→isAlloc o.op=false→False:=by
  intro listed dn l σ η a w X i o hv hall ho hna
  have hlt:=(Array.getElem?_eq_some_iff.1 ho).1;obtain ⟨b,hb⟩:=hv.x2 i (List.mem_cons_self ..) (by rw [getD_bool (by rw [hv.size];exact hlt) false true];exact hall i hlt);obtain ⟨_,_,o',d',h3,h4,_⟩:=hv.x1 _ hb;rw [ho] at h3;cases h3;rw [hna] at h4;cases h4
 induction h with
 |nil h =>
  intro listed dn a w X L hok hL hv hall
  have hX:X=[]:=by
   cases X with
   |nil=>rfl
   |cons x X=>have:=(hv.x1 x (List.mem_cons_self ..)).1;cases this
  subst hX;refine h a w ⟨hv.len,fun t v ht=>hv.frame t v ht fun j o hj _=>?_⟩ hv.defers (by simpa using hv.holds);have hlt:=(Array.getElem?_eq_some_iff.1 hj).1;refine ⟨fun _=>?_,fun _=>by rw [getD_bool (by rw [hv.size];exact hlt) false true];exact hall j hlt⟩;have:=hok.all j hlt;rw [hL] at this
  simpa using this
 |quiet ho hna hdo h ih=>intro listed dn a w X L hok hL hv hall;obtain ⟨o,h1,h2,_⟩:=ho.op_at;exact (absurd hv hall h1 (by rw [h2];exact hna)).elim
 |no ho hna hl _ h ih=>intro listed dn a w X L hok hL hv hall;obtain ⟨o,j,oj,h1,_,h2,_⟩:=opAtG_spec ho;exact (absurd hv hall h1 (by rw [h2];exact hna)).elim
 |callT ho hx hc hv' hargs con hp h ih=>intro listed dn a w X L hok hL hv hall;obtain ⟨o,h1,h2,_⟩:=ho.op_at;exact (absurd hv hall h1 (by rw [h2];rfl)).elim
 |loudE ho hna hdo h ih=>intro listed dn a w X L hok hL hv hall;obtain ⟨o,h1,h2,_⟩:=ho.op_at;exact (absurd hv hall h1 (by rw [h2];exact hna)).elim
 |loudU ho hna hdo h ih=>intro listed dn a w X L hok hL hv hall;obtain ⟨o,h1,_,h2,_⟩:=opAtU_spec ho;exact (absurd hv hall h1 (by rw [h2];exact hna)).elim
 |lastU ho hna hl hdo h=>intro listed dn a w X L hok hL hv hall;obtain ⟨o,h1,_,h2,_⟩:=opAtU_spec ho;exact (absurd hv hall h1 (by rw [h2];exact hna)).elim
 |one hd h ih=>intro listed dn a w X L hok hL hv hall;exact ih hok hL hv hall
 |swap l' hp h ih =>
  intro listed dn a w X L hok hL hv hall
  have hnd:=hok.nodup;rw [hL,List.nodup_append] at hnd;exact ih (hok.reorder hL hp) rfl (hv.reorder (permOk_spec hnd.2.1 hp).1) hall
 |alt cands hc h ih =>
  intro listed dn a w X L hok hL hv hall
  obtain ⟨hne,hall',hd⟩:=altOk_spec hc;obtain ⟨i,hi⟩:=List.exists_mem_of_ne_nil _ hne;obtain ⟨h1,h2,h4,h3⟩:=hall' i hi;exact ih i hi (hok.move h4 hL h1 h3) rfl (hv.move h1) hall
 |lazy ho hd hz h ih =>
  intro listed dn a w X L hok hL hv hall
  obtain ⟨o,h1,h2,h3,_,_⟩:=opAt_spec ho;have hlt:=(Array.getElem?_eq_some_iff.1 h1).1;obtain ⟨b,hb⟩:=hv.x2 _ (List.mem_cons_self ..) (by rw [getD_bool (by rw [hv.size];exact hlt) false true];exact hall _ hlt);obtain ⟨X',hv'⟩:=hv.meet hok hL h1 h2 h3 hz hb;exact ih b hok (by rw [hL];simp) hv' hall
theorem OD.advance {fl:Bool} {l0:List Nat} {σ:List (Nat × Value)} {η:List SProp} (h:ODx P fn n R ops k D g fl l0 σ η):fl=false→∀ {listed:Array Bool} {dn:List Nat} {a:Act} {w:World} {X:List (Nat × Nat)} {L:List Nat} {i:Nat} {o:Oper},Ok P n ops L→L=dn++l0 →
  Inv P ops n D g listed dn l0 σ η a w X→i∈ready .any ops listed→i∈l0→ops[i]?=some o→isAlloc o.op=false →
  ∃ L' dn' l' σ' η' X',Ok P n ops L' ∧L' =dn' ++i::l' ∧Inv P ops n D g listed dn' (i::l') σ' η' a w X' ∧ODx P fn n R ops k D g true (i::l') σ' η' :=by
 have unl:∀ {listed:Array Bool} {dn l:List Nat} {σ:List (Nat × Value)} {η:List SProp} {a:Act} {w:World} {X:List (Nat × Nat)} {i:Nat} {o:Oper},Inv P ops n D g listed dn (i::l) σ η a w X →
   ops[i]?=some o→isAlloc o.op=false→listed.getD i false=false:=by
  intro listed dn l σ η a w X i o hv ho hna
  cases hl:listed.getD i false with
  |false=>rfl
  |true =>
   obtain ⟨b,hb⟩:=hv.x2 i (List.mem_cons_self ..) hl;obtain ⟨_,_,o',d',h3,h4,_⟩:=hv.x1 _ hb;rw [ho] at h3;cases h3;rw [hna] at h4;cases h4
 have stop:∀ {listed:Array Bool} {dn l:List Nat} {σ:List (Nat × Value)} {η:List SProp} {a:Act} {w:World} {X:List (Nat × Nat)} {j i:Nat} {o:Oper},Inv P ops n D g listed dn (j::l) σ η a w X→descOk ops [j] l=true→listed.getD j false=false →
   i∈ready .any ops listed→i∈l→ops[i]?=some o→isAlloc o.op=false→False:=by
  intro listed dn l σ η a w X j i o hv hd hu hr hi ho hna
  refine (desc_not hv.closed hv.size l [j] hd (fun c hc=>by rw [List.mem_singleton.1 hc];exact hu) i hi (by simp [allocAt,ho,hna]) (Array.getElem?_eq_some_iff.1 ho).1).1 hr
 induction h with
 |nil h=>intro _ listed dn a w X L i o _ _ _ _ hi;cases hi
 |@quiet fl j d op v l σ η ho hna hdo h ih =>
  intro _ listed dn a w X L i o hok hL hv hr hi hoi hnai
  rcases List.mem_cons.1 hi with rfl|hi
  ·exact ⟨L,dn,l,σ,η,X,hok,hL,hv,.quiet ho hna hdo h⟩
  ·obtain ⟨oj,h1,h2,h3,_⟩:=ho.op_at
   have hst:=hok.weak dn j l hL (List.ne_nil_of_mem hi);have hp:Pend P ops n D g ((d,v)::σ) j:=Pend.quiet hok.sel ho hdo fun o' ho' =>hok.fresh hst hL h1 h3 j o' (.inr rfl) ho';exact ih rfl hok (by rw [hL];simp) (Inv.wait hok hL hst hv h1 h3 (unl hv h1 (by rw [h2];exact hna)) hp) hr hi hoi hnai
 |@no fl j d t op b l σ η v ho hna hl hvb h ih =>
  intro _ listed dn a w X L i o hok hL hv hr hi hoi hnai
  rcases List.mem_cons.1 hi with rfl|hi
  ·exact ⟨L,dn,l,σ,η,X,hok,hL,hv,.no ho hna hl hvb h⟩
  ·obtain ⟨oj,_,_,h1,h3,h2,_⟩:=opAtG_spec ho
   have hst:=hok.weak dn j l hL (List.ne_nil_of_mem hi);have hp:Pend P ops n D g ((d,undef)::σ) j:=Pend.no ho hl hvb fun o' ho' =>hok.fresh hst hL h1 h3 j o' (.inr rfl) ho';exact ih rfl hok (by rw [hL];simp) (Inv.wait hok hL hst hv h1 h3 (unl hv h1 (by rw [h2];exact hna)) hp) hr hi hoi hnai
 |callT=>intro hf;cases hf
 |loudE=>intro hf;cases hf
 |loudU=>intro hf;cases hf
 |lastU=>intro hf;cases hf
 |@one j l σ η hd h ih =>
  intro _ listed dn a w X L i o hok hL hv hr hi hoi hnai
  rcases List.mem_cons.1 hi with rfl|hi
  ·exact ⟨L,dn,l,σ,η,X,hok,hL,hv,h⟩
  ·have hna:∃ oj,ops[j]?=some oj∧isAlloc oj.op=false:=by
    cases h with
    |quiet ho hna _ _=>obtain ⟨oj,h1,h2,_⟩:=ho.op_at;exact ⟨oj,h1,by rw [h2];exact hna⟩
    |no ho hna _ _ _=>obtain ⟨oj,_,_,h1,_,h2,_⟩:=opAtG_spec ho;exact ⟨oj,h1,by rw [h2];exact hna⟩
    |callT ho _ _ _ _ _ _ _=>obtain ⟨oj,h1,h2,_⟩:=ho.op_at;exact ⟨oj,h1,by rw [h2];rfl⟩
    |loudE ho hna _ _=>obtain ⟨oj,h1,h2,_⟩:=ho.op_at;exact ⟨oj,h1,by rw [h2];exact hna⟩
    |loudU ho hna _ _=>obtain ⟨oj,h1,_,h2,_⟩:=opAtU_spec ho;exact ⟨oj,h1,by rw [h2];exact hna⟩
    |lastU ho hna _ _ _=>obtain ⟨oj,h1,_,h2,_⟩:=opAtU_spec ho;exact ⟨oj,h1,by rw [h2];exact hna⟩
   obtain ⟨oj,h1,h2⟩:=hna;exact (stop hv hd (unl hv h1 h2) hr hi hoi hnai).elim
 |@swap l σ η l' hp h ih =>
  intro _ listed dn a w X L i o hok hL hv hr hi hoi hnai
  have hnd:=hok.nodup;rw [hL,List.nodup_append] at hnd;have hpm:=(permOk_spec hnd.2.1 hp).1;exact ih rfl (hok.reorder hL hp) rfl (hv.reorder hpm) hr (hpm.mem_iff.1 hi) hoi hnai
 |@alt l σ η cands hc h ih =>
  intro _ listed dn a w X L i o hok hL hv hr hi hoi hnai
  obtain ⟨_,hall',hd⟩:=altOk_spec hc
  by_cases hic:i∈cands
  ·obtain ⟨h1,h2,h4,h3⟩:=hall' i hic
   exact ⟨_,dn,_,σ,η,X,hok.move h4 hL h1 h3,rfl,hv.move h1,h i hic⟩
  ·refine absurd hr (desc_not hv.closed hv.size _ cands hd (fun c hcm=>?_) i (List.mem_filter.2 ⟨hi,by simpa using hic⟩) (by simp [allocAt,hoi,hnai]) (Array.getElem?_eq_some_iff.1 hoi).1).1
   obtain ⟨h1,h2,_,h3⟩:=hall' c hcm
   cases hl:listed.getD c false with
   |false=>rfl
   |true =>
    obtain ⟨b,hb⟩:=hv.x2 c h1 hl;obtain ⟨_,_,o',d',h4,h5,_⟩:=hv.x1 _ hb
    simp [allocAt,h4,h5] at h2
 |@lazy j d T z l σ η ho hd hz h ih =>
  intro _ listed dn a w X L i o hok hL hv hr hi hoi hnai
  obtain ⟨oj,h1,h2,h3,_,_⟩:=opAt_spec ho
  rcases List.mem_cons.1 hi with rfl|hi
  ·rw [h1] at hoi;cases hoi;rw [h3] at hnai;cases hnai
  ·cases hlj:listed.getD j false with
   |false=>exact (stop hv hd hlj hr hi hoi hnai).elim
   |true =>
    obtain ⟨b,hb⟩:=hv.x2 j (List.mem_cons_self ..) hlj;obtain ⟨X',hv'⟩:=hv.meet hok hL h1 h2 h3 hz hb;exact ih b rfl hok (by rw [hL];simp) hv' hr hi hoi hnai
theorem OD.any:∀ (fuel:Nat) (L:List Nat) (listed:Array Bool) (dn l0:List Nat) (σ:List (Nat × Value)) (η:List SProp) (a:Act) (w:World) (X:List (Nat × Nat)),Ok P n ops L→L=dn++l0→Inv P ops n D g listed dn l0 σ η a w X →
  OD P fn n R ops k D g l0 σ η→left ops listed≤fuel→wpAny P .any ops (QK none P k (Post none P fn R)) fuel listed a w:=by
 intro fuel
 induction fuel with
 |zero =>
  intro L listed dn l0 σ η a w X hok hL hv hod hf
  have hall:=left_zero (ops:=ops) (listed:=listed) (by omega);refine ⟨?_,OD.finish hod hok hL hv hall⟩;refine List.eq_nil_iff_forall_not_mem.2 fun i hi=>?_;obtain ⟨h1,o,ho,_⟩:=mem_ready.1 hi;rw [hall i (Array.getElem?_eq_some_iff.1 ho).1] at h1;cases h1
 |succ fuel ih =>
  intro L listed dn l0 σ η a w X hok hL hv hod hf
  refine ⟨fun hr=>?_,fun i hi=>?_⟩
  ·
   refine OD.finish hod hok hL hv ?_;have key:∀ (pre post:List Nat),L=pre++post→∀ i∈pre,listed.getD i false=true:=by
    intro pre
    induction hlen:pre.length generalizing pre with
    |zero=>intro post _ i hi;rw [List.eq_nil_of_length_eq_zero hlen] at hi;cases hi
    |succ m ihm =>
     intro post hp i hi
     rcases List.eq_nil_or_concat pre with rfl|⟨pre',j,rfl⟩
     ·cases hi
     ·simp only [List.concat_eq_append,List.length_append,List.length_singleton,List.append_assoc,List.singleton_append,List.mem_append,List.mem_singleton] at hlen hp hi
      have hpre:=ihm pre' (by omega) (j::post) hp
      rcases hi with hi|rfl
      ·exact hpre i hi
      ·have hlt:=hok.lt i (by rw [hp];simp)
       cases hl:listed.getD i false with
       |true=>rfl
       |false =>
        exfalso
        have:i∈ready .any ops listed:=mem_ready.2 ⟨by rw [getD_bool (by rw [hv.size];exact hlt) true false];exact hl,ops[i],by simp [hlt],fun e he hb=>hpre _ (hok.after pre' i post hp ops[i] (by simp [hlt]) e he hb)⟩;rw [hr] at this;cases this
   intro i hi
   rw [getD_bool (by rw [hv.size];exact hi) true false];exact key L [] (by simp) i (hok.all i hi)
  ·obtain ⟨hun,o,ho,_⟩:=mem_ready.1 hi
   have hlt:=(Array.getElem?_eq_some_iff.1 ho).1;have hdec:left ops (listed.setIfInBounds i true)≤fuel:=by
    have:=left_set (ops:=ops) hv.size hlt hun
    omega
   have him:i∈dn∨i∈l0:=by have:=hok.all i hlt;rw [hL] at this;exact List.mem_append.1 this
   rcases him with him|him
   ·
    obtain ⟨o',d,v,h1,h2,h3,h4,h5⟩:=hv.pend i him (by rw [getD_bool (by rw [hv.size];exact hlt) false true];exact hun);rw [ho] at h1;cases h1;refine h5 a w _ _ _ hv.holds ?_ fun w' hw' =>ih L _ dn l0 σ η _ w' X hok hL (hv.done hok hL hi ho h2 h3 him h4 hw') hod hdec
    intro t ht u hu
    refine hv.frame t u hu fun j oj hj hdj=>?_;have hjlt:=(Array.getElem?_eq_some_iff.1 hj).1
    rcases hok.reads i o j oj t ho hj hdj ht with ⟨e,he,hb,hon⟩|⟨e,he,hb,hon⟩
    ·obtain ⟨_,o'',ho'',hall⟩:=mem_ready.1 hi
     rw [ho] at ho'';cases ho'';obtain ⟨p,q,rfl⟩:=List.append_of_mem him;have:=hok.after p i (q++l0) (by rw [hL];simp) o ho e he hb;rw [hon] at this;exact ⟨fun _=>by simp [this],fun _=>hon ▸ hall e he hb⟩
    ·have hnl:listed.getD j false=false:=by
      cases hlj:listed.getD j false with
      |false=>rfl
      |true =>
       have:=hv.closed j oj hj (by rw [getD_bool (by rw [hv.size];exact hjlt) true false];exact hlj) hjlt e he hb;rw [hon,getD_bool (by rw [hv.size];exact hlt) false true,hun] at this;cases this
     refine ⟨fun h=>absurd h (by rw [hnl];decide),fun hjd=>?_⟩;obtain ⟨e',he',hb',hon'⟩:=strongB_spec (hv.wk j hjd hnl) hj hdj i o ho ht;obtain ⟨_,o'',ho'',hall⟩:=mem_ready.1 hi;rw [ho] at ho'';cases ho'';have:=hall e' he' hb';rw [hon'] at this;exact this
   ·cases hna:isAlloc o.op with
    |true =>
     cases hop:o.op with
     |alloc T =>
      obtain ⟨⟨z,hz⟩,hgd,d,hd,hb⟩:=hok.alloc i o T ho hop;simp only [wpOp,ho,Region.wanted,hgd,if_true];refine .inl ?_;have hrun:(execOp a.eval o).run P w=.ok (.value (.pointer (some ⟨w.heap.size,0,none⟩))) (w.alloc (.cells z.cells T)):=by
       simp [execOp,hop,Instr.alloc,run_zeroOf hz,newVar,newRow]
      unfold Oper.wp;rw [hrun,Oper.upon_value,hd];exact ih L _ dn l0 σ η _ _ _ hok hL (hv.early hok hL hi him ho hop hz hd hb) hod hdec
     |_=>rw [hop] at hna;cases hna
    |false =>
     obtain ⟨L',dn',l',σ',η',X',hok',hL',hv',hod'⟩:=OD.advance hod rfl hok hL hv hi him ho hna;clear hok hL hv hod him;have hok:=hok';have hagr:Agrees ops o σ' a:=by
      intro t ht u hu
      refine hv'.frame t u hu fun j oj hj hdj=>?_;have hjlt:=(Array.getElem?_eq_some_iff.1 hj).1
      rcases hok.reads i o j oj t ho hj hdj ht with ⟨e,he,hb,hon⟩|⟨e,he,hb,hon⟩
      ·obtain ⟨_,o'',ho'',hall⟩:=mem_ready.1 hi
       rw [ho] at ho'';cases ho'';exact ⟨fun _=>hon ▸ hok.after dn' i l' hL' o ho e he hb,fun _=>hon ▸ hall e he hb⟩
      ·have hnl:listed.getD j false=false:=by
        cases hlj:listed.getD j false with
        |false=>rfl
        |true =>
         have:=hv'.closed j oj hj (by rw [getD_bool (by rw [hv'.size];exact hjlt) true false];exact hlj) hjlt e he hb;rw [hon,getD_bool (by rw [hv'.size];exact hlt) false true,hun] at this;cases this
       refine ⟨fun h=>absurd h (by rw [hnl];decide),fun hjd=>?_⟩
       exfalso
       obtain ⟨p,q,rfl⟩:=List.append_of_mem hjd;have:=hok.after p j (q++i::l') (by rw [hL'];simp) oj hj e he hb;rw [hon] at this;have hnd:=hok.nodup;rw [hL',List.nodup_append] at hnd;exact hnd.2.2 i (by simp [this]) i (by simp) rfl
     have hL'' :L' =(dn' ++[i])++l' :=by rw [hL'];simp
     have hns:=fun cs b=>Region.noSelect_spec hok.sel i o cs b ho
     cases hod' with
     |quiet hfi hna' hdo h =>
      obtain ⟨o',h1,h2,h3,h4,h5⟩:=hfi.at;rw [ho] at h1;cases h1;obtain ⟨ρ,hkn,he,_⟩:=hagr.rho hns;obtain ⟨w',hrun,hw'⟩:=hdo _ o ρ w h3 hkn hv'.holds;simp only [wpOp,ho,h5 a hagr,if_true];refine .inl ?_;unfold Oper.wp;rw [he,hrun,Oper.upon_value,h2];exact ih _ _ _ _ _ _ _ _ _ hok hL'' (hv'.step hok hL' hi ho (.inr ⟨_,_,h2,h4,rfl,rfl⟩) hw') h hdec
     |no hfi hna' hl hvb h =>
      obtain ⟨o',j,oj,h1,h2,h3,hg,hj,ht,hb⟩:=opAtG_spec hfi;rw [ho] at h1;cases h1;have:=hagr _ (List.mem_append_right _ (by simp only [hg,hj,ht];exact List.mem_singleton.2 rfl)) _ hl;have hw:Region.wanted o (yielded ops a.tmps)=false:=by
       rename_i b0 _ _ _ v0
       cases v0<;>simp [Region.wanted,hg,yielded,hj,ht,this]
       cases b0<;>simp_all [notB]
      simp only [wpOp,ho,hw,Bool.false_eq_true,if_false,h2];exact ih _ _ _ _ _ _ _ _ _ hok hL'' (hv'.step hok hL' hi ho (.inr ⟨_,_,h2,hb,rfl,rfl⟩) hv'.holds) h hdec
     |@callT _ d _ _ η₁ ζ f x xs ts vals K Xp first cap args hfi hx hc hvs hargs con hp h =>
      obtain ⟨o',h1,h2,h3,h4,h5⟩:=hfi.at;rw [ho] at h1;cases h1;obtain ⟨ρ,hkn,he,hρ⟩:=hagr.rho hns;simp only [wpOp,ho,h5 a hagr,if_true];refine .inl ?_;unfold Oper.wp;rw [he,run_call h3 (hkn x _ hx) hc,Oper.upon_enter];have hm:xs.map ρ=vals.toArray:=by rw [← evs_spec hkn hvs,← Array.toList_map]
      rw [hm,hargs];have hperm:(X'.map (atomOf P ops)++(η₁++ζ)).Perm (η₁++(ζ++X'.map (atomOf P ops))):=by
       refine List.perm_append_comm.trans ?_
       simp
      refine (con.frame (ζ:=ζ++X'.map (atomOf P ops)) g (Fr.sub_refl _) w (hv'.holds.perm hperm)).mono fun e w' hh=>?_;obtain ⟨ηx,⟨η₂,hq,rfl⟩,hw'⟩:=hh
      cases e with
      |returned v =>
       show wpAny P .any ops _ fuel _ (a.put o.dst v) w'
       rw [h2];have hperm' :(η₂++(ζ++X'.map (atomOf P ops))).Perm (X'.map (atomOf P ops)++(η₂++ζ)):=by
        rw [← List.append_assoc];exact List.perm_append_comm
       exact ih _ _ _ _ _ _ _ _ _ hok hL'' (hv'.step hok hL' hi ho (.inr ⟨_,_,h2,h4,rfl,rfl⟩) (hw'.perm hperm')) (h v η₂ hq) hdec
      |panicked ch =>
       show Lv P fn a.tmps R a.defers (.panicking ch) w'
       rw [hv'.defers];exact hp a ch η₂ w' hq ((hw'.perm (by rw [← List.append_assoc];exact List.perm_append_comm)).drop_n)
      |outgrown=>exact hq.elim
     |loudE hfi hna' hdo h =>
      obtain ⟨o',h1,h2,h3,h4,h5⟩:=hfi.at;rw [ho] at h1;cases h1;obtain ⟨ρ,hkn,he,_⟩:=hagr.rho hns;obtain ⟨v,w',ηx,⟨η₂,hq,rfl⟩,hrun,hw'⟩:=hdo (X'.map (atomOf P ops)) o ρ w h3 hkn (hv'.holds.perm List.perm_append_comm);simp only [wpOp,ho,h5 a hagr,if_true];refine .inl ?_;unfold Oper.wp;rw [he,hrun,Oper.upon_value,h2];exact ih _ _ _ _ _ _ _ _ _ hok hL'' (hv'.step hok hL' hi ho (.inr ⟨_,_,h2,h4,rfl,rfl⟩) (hw'.perm List.perm_append_comm)) (h v η₂ hq) hdec
     |loudU hfi hna' hdo h =>
      obtain ⟨o',h1,h2,h3,h4⟩:=opAtU_spec hfi;rw [ho] at h1;cases h1;obtain ⟨ρ,hkn,he,_⟩:=hagr.rho hns;obtain ⟨w',u,hrun,hu,hw'⟩:=hdo (X'.map (atomOf P ops)) o ρ w h3 hkn (hv'.holds.perm List.perm_append_comm);simp only [wpOp,ho,Region.wanted,h4,if_true];refine .inl ?_;unfold Oper.wp;have hup:∀ (next:Act→World→Prop) Q,o.upon P a next Q (.ok u w')=next (a.put none undef) w' :=fun next Q=>by
       rcases hu with rfl|⟨v,rfl⟩
       ·rw [Oper.upon_skip,h2]
       ·rw [Oper.upon_value,h2];rfl
      rw [he,hrun,hup];exact ih _ _ _ _ _ _ _ _ _ hok hL'' (hv'.step hok hL' hi ho (.inl ⟨h2,rfl,rfl⟩) (hw'.perm List.perm_append_comm)) h hdec
     |lastU hfi hna' hlast hdo h =>
      obtain ⟨o',h1,h2,h3,h4⟩:=opAtU_spec hfi;rw [ho] at h1;cases h1;obtain ⟨ρ,hkn,he,_⟩:=hagr.rho hns;have hX:X' =[]:=by
       cases X' with
       |nil=>rfl
       |cons x X'' =>
        obtain ⟨q1,q2,_⟩:=hv'.x1 x (List.mem_cons_self ..);rw [List.mem_singleton.1 q1,getD_bool (by rw [hv'.size];exact hlt) false true,hun] at q2;cases q2
      subst hX;obtain ⟨w',u,hrun,hu,hw'⟩:=hdo o ρ w h3 hkn (by simpa using hv'.holds);simp only [wpOp,ho,Region.wanted,h4,if_true];refine .inl ?_;unfold Oper.wp;have hup:∀ (next:Act→World→Prop) Q,o.upon P a next Q (.ok u w')=next (a.put none default) w' :=fun next Q=>by
       rcases hu with rfl|⟨v,rfl⟩
       ·rw [Oper.upon_skip,h2];rfl
       ·rw [Oper.upon_value,h2];rfl
      rw [he,hrun,hup];have hother:∀ j,j<ops.size→j≠i→listed.getD j false=true:=fun j hj hne=>by
       have:=List.all_eq_true.1 hlast j (List.mem_range.2 hj);simp only [Bool.or_eq_true] at this
       rcases this with (this|this)|this
       ·exact (hne (Nat.eq_of_beq_eq_true this)).elim
       ·obtain ⟨_,o'',ho'',hall⟩:=mem_ready.1 hi
        rw [ho] at ho'';cases ho'';exact hangs_listed hv'.closed hv'.size j 2 i (fun o2 ho2 e he hb=>by rw [ho] at ho2;cases ho2;exact hall e he hb) this
       ·obtain ⟨_,o'',ho'',hall⟩:=mem_ready.1 hi
        rw [ho] at ho'';cases ho'';exact hangs_listed hv'.closed hv'.size j 10 i (fun o2 ho2 e he hb=>by rw [ho] at ho2;cases ho2;exact hall e he hb) this
      have hin:∀ j,j<ops.size→j≠i→j∈dn' :=fun j hj hne=>by
       have:=hok.all j hj;rw [hL'] at this
       rcases List.mem_append.1 this with h|h
       ·exact h
       ·exact (hne (List.mem_singleton.1 h)).elim
      have hruns:Runs none P k (Post none P fn R) (a.put none default) w' :=by
       refine h a w' ⟨hv'.len,fun t v ht=>hv'.frame t v ht fun j oj hj hdj=>?_⟩ hv'.defers hw';have hjl:=(Array.getElem?_eq_some_iff.1 hj).1;have hne:j≠i:=by rintro rfl;rw [ho] at hj;cases hj;rw [h2] at hdj;cases hdj
       exact ⟨fun _=>hin j hjl hne,fun _=>hother j hjl hne⟩
      have hnone:ready .any ops (listed.setIfInBounds i true)=[]:=by
       refine List.eq_nil_iff_forall_not_mem.2 fun j hj=>?_;obtain ⟨q1,o'',ho'',_⟩:=mem_ready.1 hj;have hjl:=(Array.getElem?_eq_some_iff.1 ho'').1
       by_cases hne:j=i
       ·subst hne
        simp [hv'.size,hlt] at q1
       ·rw [getD_set_ne true (fun h=>hne h.symm),getD_bool (by rw [hv'.size];exact hjl) true false,hother j hjl hne] at q1;cases q1
      cases fuel with
      |zero=>exact ⟨hnone,hruns⟩
      |succ fuel=>exact ⟨fun _=>hruns,fun j hj=>by rw [hnone] at hj;cases hj⟩
theorem S.regionD {L:List Nat} {id:Nat} {σ:List (Nat × Value)} {η:List SProp} (hm:P.follows .mixedOrders=true) (hok:orderOk P n ops L=true) (h:OD P fn n R ops k D g L σ η) :
  S none P fn n R (.code (.region id ops true)::k) σ D g η:=by
 intro a w hf hd hw
 intro b cs hb hf'
 have hinv:Inv P ops n D g (Array.replicate ops.size false) [] L σ η a { w with drawn:=w.drawn+1 } []:=by
  refine ⟨by simp,?_,?_,?_,by simp,?_,hf.1,hd,(fun j hj=>by cases hj),fun t v ht _=>hf.2 t v ht,by simpa using hw.drewN (w.drawn+1) (Nat.le_succ _)⟩
  ·intro i o _ hl hlt
   simp [Array.getD_eq_getD_getElem?,hlt] at hl
  ·intro x hx;cases hx
  ·intro i _ hl
   simp only [Array.getD_eq_getD_getElem?,Array.getElem?_replicate] at hl
   split at hl<;>simp at hl
  ·intro i hi;cases hi
 have hleft:left ops (Array.replicate ops.size false)≤ops.size:=by
  unfold left;exact Nat.le_trans (List.length_filter_le _ _) (by simp)
 have hany:=OD.any ops.size L _ [] L σ η a _ [] (orderOk_spec hok) (by simp) hinv h hleft;have hops:∀ t,wpOps P ops (QK none P k (Post none P fn R)) (Region.schedule (P.follows .mixedOrders) ops t) a { w with drawn:=w.drawn+1 }:=fun t=>by
  simp only [Region.schedule,hm,Bool.true_or,if_true];exact wpAny_sound ops.size t _ a _ hany
 obtain ⟨e,a',w',q,r⟩:=Runs.opsN (hops (w.tape w.drawn (.order b.fn id))) b cs hb hf';exact ⟨e,a',w',q,.of_steps (.one (fenced_wide P _) stepR_region_draw) r⟩
end
end Go.Sp
end
section
/- Texts of this proof, one behind the other. -/
section
/- Texts of this proof. -/
namespace Go.Sp
def All2 {α β:Type} (R:β→α→Prop):List β→List α→Prop
 |[],[]=>True
 |b::bs,a::as=>R b a∧All2 R bs as
 |_,_=>False
theorem All2.imp {α β:Type} {R S:β→α→Prop} (h:∀ b a,R b a→S b a):∀ {bs:List β} {as:List α},All2 R bs as→All2 S bs as
 |[],[],_=>trivial
 |_::_,_::_,⟨x,y⟩=>⟨h _ _ x,All2.imp h y⟩
theorem All2.length {α β:Type} {R:β→α→Prop}:∀ {bs:List β} {as:List α},All2 R bs as→bs.length=as.length
 |[],[],_=>rfl
 |_::_,_::_,⟨_,y⟩=>by simp [All2.length y]
theorem All2.get {α β:Type} {R:β→α→Prop}:∀ {bs:List β} {as:List α} (_:All2 R bs as) (i:Nat) (hb:i<bs.length) (ha:i<as.length),R bs[i] as[i]
 |_::_,_::_,⟨x,_⟩,0,_,_=>x
 |_::_,_::_,⟨_,y⟩,i+1,hb,ha=>All2.get y i (by simpa using hb) (by simpa using ha)
theorem All2.append {α β:Type} {R:β→α→Prop}:∀ {bs cs:List β} {as ds:List α},All2 R bs as→All2 R cs ds→All2 R (bs++cs) (as++ds)
 |[],_,[],_,_,h=>h
 |_::_,_,_::_,_,⟨x,y⟩,h=>⟨x,All2.append y h⟩
theorem All2.drop {α β:Type} {R:β→α→Prop}:∀ {bs:List β} {as:List α} (n:Nat),All2 R bs as→All2 R (bs.drop n) (as.drop n)
 |_,_,0,h=>h
 |[],[],_+1,_=>trivial
 |_::_,_::_,n+1,⟨_,y⟩=>All2.drop n y
theorem All2.take {α β:Type} {R:β→α→Prop}:∀ {bs:List β} {as:List α} (n:Nat),All2 R bs as→All2 R (bs.take n) (as.take n)
 |_,_,0,_=>trivial
 |[],[],_+1,_=>trivial
 |_::_,_::_,n+1,⟨x,y⟩=>⟨x,All2.take n y⟩
structure Rp (α:Type) where
 k:Nat
 rel:Fr→List Value→α→Prop
 len:∀ {h:Fr} {cs:List Value} {a:α},rel h cs a→cs.length=k
 mono:∀ {h h' :Fr} {cs:List Value} {a:α},h.sub h' →rel h cs a→rel h' cs a
 one:∀ {h:Fr} {cs:List Value} {a:α},rel h cs a→∀ c∈cs,c.oneCell' =true
def Arr {α:Type} (T:Rp α) (h:Fr) (v:Value) (xs:List α):Prop:=∃ css:List (List Value),All2 (T.rel h) css xs∧Sl h v T.k xs.length css.flatten
section
variable {α:Type} {T:Rp α} {h:Fr} {v:Value} {xs:List α}
theorem Arr.mono {h' :Fr} (s:h.sub h'):Arr T h v xs→Arr T h' v xs
 |⟨css,a,b⟩=>⟨css,a.imp fun _ _=>T.mono s,b.mono s⟩
theorem Arr.shape:Arr T h v xs→∃ a c,v=.slice a xs.length c
 |⟨_,_,a,c,hv,_⟩=>⟨a,c,hv⟩
theorem Arr.bound:Arr T h v xs→xs.length≤9223372036854775807
 |⟨_,_,b⟩=>b.bound
theorem All2.flat_take {css:List (List Value)} (ha:All2 (T.rel h) css xs) (i:Nat):css.flatten.take (i*T.k)=(css.take i).flatten:=by
 induction i generalizing css xs with
 |zero=>simp
 |succ i ih =>
  cases css with
  |nil=>simp
  |cons c css =>
   cases xs with
   |nil=>exact ha.elim
   |cons x xs =>
    have hc:c.length=T.k:=T.len ha.1;simp only [List.flatten_cons,List.take_succ_cons];rw [Nat.succ_mul,List.take_append,List.take_of_length_le (by omega),show i*T.k+T.k - c.length=i*T.k from by omega,ih ha.2]
theorem All2.flat_drop {css:List (List Value)} (ha:All2 (T.rel h) css xs) (i:Nat):css.flatten.drop (i*T.k)=(css.drop i).flatten:=by
 induction i generalizing css xs with
 |zero=>simp
 |succ i ih =>
  cases css with
  |nil=>simp
  |cons c css =>
   cases xs with
   |nil=>exact ha.elim
   |cons x xs =>
    have hc:c.length=T.k:=T.len ha.1;simp only [List.flatten_cons,List.drop_succ_cons];rw [Nat.succ_mul,List.drop_append,List.drop_eq_nil_of_le (by omega),List.nil_append,show i*T.k+T.k - c.length=i*T.k from by omega,ih ha.2]
theorem All2.flat_get {css:List (List Value)} (ha:All2 (T.rel h) css xs) (i:Nat) (hi:i<css.length):(css.flatten.drop (i*T.k)).take T.k=css[i]:=by
 rw [ha.flat_drop,List.drop_eq_getElem_cons hi,List.flatten_cons,List.take_append];have hc:css[i].length=T.k:=T.len (ha.get i hi (by rw [← ha.length];exact hi));rw [List.take_of_length_le (by omega),hc];simp
end
section
variable {ro:Option Nat} {P:Program} {σ:List (Nat × Value)} {g:Gr} {η ζ:List SProp} {fn:Func} {n:Nat} {R:Ending→World→Prop} {K:List Item} {D:List Deferred} {ops:Array Oper} {i d:Nat} {l:List Nat}
 {t e:TypeId} {x y:Operand} {v:Value} {kd:IntKind} {j:Nat}
theorem idx_does {α:Type} {T:Rp α} {xs:List α} (ht:P.underlying t=some (.slice e)) (he:(P.info? e).map (·.size)=some T.k) (hx:ev σ x=some v) {zi:Int} (hy:ev σ y=some (.int kd zi)) (hzi:zi=(j:Int))
  (hs:Arr T g.h v xs) (hk0:0<T.k) (hm:j<xs.length):∃ p cs,(∀ η,Does P (.indexAddr t x y) σ g η (.pointer (some p)) η)∧At g.h p cs∧T.rel g.h cs xs[j]:=by
 subst hzi;obtain ⟨css,ha,hsl⟩:=hs;obtain ⟨a,cap,rfl,h1,h2,h3,h4⟩:=hsl
 cases a with
 |none =>
  have:0<css.flatten.length:=by rw [h3];exact Nat.mul_pos (by omega) hk0
  obtain ⟨p,hp,_⟩:=h4 0 this
  cases hp
 |some a =>
  have hj:j<css.length:=by rw [ha.length];exact hm
  refine ⟨a.add (j*T.k),css[j],fun η=>.run fun o ρ w ho hk=>?_,?_,ha.get j hj hm⟩
  ·have hij:(j:Int)<(xs.length:Int):=by omega
   simp [execOp,ho,hk x _ hx,hk y _ hy,Instr.indexAt,asIntOf,run_underlying ht,hm,run_sizeOf he]
  ·rw [← ha.flat_get j hj]
   intro q hq
   rw [Addr.add_add];have hq' :j*T.k+q<css.flatten.length:=by simp only [List.length_take,List.length_drop] at hq;omega
   obtain ⟨p,hp,hc⟩:=h4 _ hq'
   cases hp
   rw [hc];simp
theorem O.idx' {α:Type} {T:Rp α} {xs:List α} (ho:Fires ops i n σ d (.indexAddr t x y)) (ht:P.underlying t=some (.slice e)) (he:(P.info? e).map (·.size)=some T.k) (hx:ev σ x=some v)
  {zi:Int} (hy:ev σ y=some (.int kd zi)) (hzi:zi=(j:Int)) (hs:Arr T g.h v xs) (hk0:0<T.k) (hm:j<xs.length)
  (h:∀ p cs,At g.h p cs→T.rel g.h cs xs[j]→O ro P fn n R ops l K ((d,.pointer (some p))::σ) D g η):O ro P fn n R ops (i::l) K σ D g η:=by
 obtain ⟨p,cs,h1,h2,h3⟩:=idx_does ht he hx hy hzi hs hk0 hm;exact O.op ho (h1 η) (h p cs h2 h3)
theorem OD.idx' {α:Type} {T:Rp α} {xs:List α} (ho:Fires ops i n σ d (.indexAddr t x y)) (ht:P.underlying t=some (.slice e)) (he:(P.info? e).map (·.size)=some T.k) (hx:ev σ x=some v)
  {zi:Int} (hy:ev σ y=some (.int kd zi)) (hzi:zi=(j:Int)) (hs:Arr T g.h v xs) (hk0:0<T.k) (hm:j<xs.length)
  (h:∀ p cs,At g.h p cs→T.rel g.h cs xs[j]→OD P fn n R ops K D g l ((d,.pointer (some p))::σ) η):OD P fn n R ops K D g (i::l) σ η:=by
 obtain ⟨p,cs,h1,h2,h3⟩:=idx_does ht he hx hy hzi hs hk0 hm;exact .quiet ho rfl h1 (h p cs h2 h3)
theorem slice_does {α:Type} {T:Rp α} {xs:List α} {r:Fr} {lo hi:Option Operand} {a b:Nat} {kl kh:IntKind} (ht:P.underlying t=some (.slice e)) (he:(P.info? e).map (·.size)=some T.k) (hx:ev σ x=some v)
  (hlo:∀ y,lo=some y→ev σ y=some (.int kl (a:Int))) (hlo' :lo=none→a=0) (hhi:∀ y,hi=some y→ev σ y=some (.int kh (b:Int))) (hhi' :hi=none→b=xs.length)
  (hs:Arr T r v xs) (hab:a≤b) (hb:b≤xs.length):∃ u,(∀ η,Does P (.slice t x lo hi none) σ g η u η)∧Arr T r u ((xs.take b).drop a):=by
 obtain ⟨css,ha,hsl⟩:=hs;obtain ⟨ad,cap,rfl,h1,h2,h3,h4⟩:=hsl;refine ⟨.slice (if cap=a then ad else ad.map (·.add (a*T.k))) (b - a) (cap - a),fun η=>.run fun o ρ w ho hk=>?_,(css.take b).drop a,(ha.take b).drop a,?_⟩
 ·have e1:(a:Int)≤(b:Int):=by omega
  have e2:(b:Int)≤(cap:Int):=by omega
  have hl0:lo=none→a=0:=hlo'
  cases lo with
  |none =>
   have:=hlo' rfl;subst this
   cases hi with
   |none=>have:=hhi' rfl;subst this;simp [execOp,ho,hk x _ hx,Instr.sliceAt,run_underlying ht,Instr.slice,Instr.sliceBounds,run_sizeOf he]
   |some y =>
    have hb' :b≤cap:=by omega
    simp [execOp,ho,hk x _ hx,hk y _ (hhi y rfl),Instr.sliceAt,run_underlying ht,Instr.slice,Instr.sliceBounds,Instr.sliceBound,asIntOf,hb',run_sizeOf he]
  |some z =>
   cases hi with
   |none=>have:=hhi' rfl;subst this;simp [execOp,ho,hk x _ hx,hk z _ (hlo z rfl),Instr.sliceAt,run_underlying ht,Instr.slice,Instr.sliceBounds,Instr.sliceBound,asIntOf,hab,run_sizeOf he]
   |some y =>
    have hb' :b≤cap:=by omega
    simp [execOp,ho,hk x _ hx,hk z _ (hlo z rfl),hk y _ (hhi y rfl),Instr.sliceAt,run_underlying ht,Instr.slice,Instr.sliceBounds,Instr.sliceBound,asIntOf,hab,hb',run_sizeOf he]
 ·have hlen:((xs.take b).drop a).length=b - a:=by simp;omega
  have hcs:((css.take b).drop a).flatten=(css.flatten.take (b*T.k)).drop (a*T.k):=by
   rw [ha.flat_take b,(ha.take b).flat_drop a]
  refine ⟨_,cap - a,by rw [hlen],by omega,⟨by omega,fun h=>?_⟩,?_,?_⟩
  ·cases ad with
   |none=>have:=h2.2 rfl;omega
   |some ad=>simp only [Option.map_some] at h;split at h<;>cases h
  ·rw [hcs,hlen,List.length_drop,List.length_take,h3,Nat.sub_mul,Nat.min_eq_left (Nat.mul_le_mul_right _ hb)]
  ·intro q hq
   rw [hcs] at hq;have hq2:a*T.k+q<css.flatten.length:=by simp only [List.length_take,List.length_drop] at hq;omega
   obtain ⟨p,rfl,hc⟩:=h4 _ hq2;have hne:cap≠a:=by
    rintro rfl;have:css.flatten.length≤cap*T.k:=by rw [h3];exact Nat.mul_le_mul_right _ (by omega)
    omega
   refine ⟨p.add (a*T.k),by simp [hne],?_⟩;rw [Addr.add_add,hc]
   simp [hcs]
end
section
variable {ro:Option Nat} {P:Program} {σ:List (Nat × Value)} {g:Gr} {η ζ:List SProp} {fn:Func} {n:Nat} {R:Ending→World→Prop} {K:List Item} {D:List Deferred} {ops:Array Oper} {i d:Nat} {l:List Nat}
 {t e:TypeId} {x y z:Operand} {v:Value} {ka kb:IntKind} {za zb:Int} {a b:Nat} {α:Type} {T:Rp α} {xs:List α} {r:Fr}
theorem O.sliceTo (ho:Fires ops i n σ d (.slice t x none (some y) none)) (ht:P.underlying t=some (.slice e)) (he:(P.info? e).map (·.size)=some T.k) (hx:ev σ x=some v) (hy:ev σ y=some (.int kb zb)) (hs:Arr T r v xs) (hz:zb=(b:Int)) (hb:b≤xs.length)
  (h:∀ u,Arr T r u (xs.take b)→O ro P fn n R ops l K ((d,u)::σ) D g η):O ro P fn n R ops (i::l) K σ D g η:=by
 subst hz;obtain ⟨u,h1,h2⟩:=slice_does (g:=g) (a:=0) (b:=b) (kl:=.i64) ht he hx (lo:=none) (hi:=some y) (fun _ h=>nomatch h) (fun _=>rfl) (fun _ h=>by cases h;exact hy) (fun h=>nomatch h) hs (Nat.zero_le _) hb;exact O.op ho (h1 η) (h u h2)
theorem O.sliceFrom (ho:Fires ops i n σ d (.slice t x (some y) none none)) (ht:P.underlying t=some (.slice e)) (he:(P.info? e).map (·.size)=some T.k) (hx:ev σ x=some v) (hy:ev σ y=some (.int ka za)) (hs:Arr T r v xs) (hz:za=(a:Int)) (ha:a≤xs.length)
  (h:∀ u,Arr T r u (xs.drop a)→O ro P fn n R ops l K ((d,u)::σ) D g η):O ro P fn n R ops (i::l) K σ D g η:=by
 subst hz;obtain ⟨u,h1,h2⟩:=slice_does (g:=g) (a:=a) (b:=xs.length) (kh:=.i64) ht he hx (lo:=some y) (hi:=none) (fun _ h=>by cases h;exact hy) (fun h=>nomatch h) (fun _ h=>nomatch h) (fun _=>rfl) hs ha (Nat.le_refl _);exact O.op ho (h1 η) (h u (by rw [List.take_length] at h2;exact h2))
theorem O.sliceMid (ho:Fires ops i n σ d (.slice t x (some y) (some z) none)) (ht:P.underlying t=some (.slice e)) (he:(P.info? e).map (·.size)=some T.k) (hx:ev σ x=some v) (hy:ev σ y=some (.int ka za)) (hz:ev σ z=some (.int kb zb)) (hs:Arr T r v xs) (h1:za=(a:Int)) (h2:zb=(b:Int)) (hab:a≤b) (hb:b≤xs.length)
  (h:∀ u,Arr T r u ((xs.take b).drop a)→O ro P fn n R ops l K ((d,u)::σ) D g η):O ro P fn n R ops (i::l) K σ D g η:=by
 subst h1;subst h2;obtain ⟨u,h1,h2⟩:=slice_does (g:=g) (a:=a) (b:=b) ht he hx (lo:=some y) (hi:=some z) (fun _ h=>by cases h;exact hy) (fun h=>nomatch h) (fun _ h=>by cases h;exact hz) (fun h=>nomatch h) hs hab hb;exact O.op ho (h1 η) (h u h2)
end
def byteV (b:UInt8):Value:=.int .u8 b.toNat
def str (xs:List UInt8):ByteArray:=⟨xs.toArray⟩
@[simp] theorem str_toList (xs:List UInt8):(str xs).toList=xs:=by rw [ByteArray.toList_eq];rfl
@[simp] theorem str_size (xs:List UInt8):(str xs).size=xs.length:=by simp [str,ByteArray.size]
def Rp.u8:Rp UInt8:={ k:=1,rel:=fun _ cs b=>cs=[byteV b],len:=fun h=>by rw [h];rfl,mono:=fun _ h=>h,one:=fun h c hc=>by subst h;simp at hc;subst hc;rfl }
def InI64 (z:Int):Prop:= -9223372036854775808≤z∧z≤9223372036854775807
def Rp.i64:Rp Int:={ k:=1,rel:=fun _ cs z=>cs=[.int .i64 z]∧InI64 z,len:=fun h=>by rw [h.1];rfl,mono:=fun _ h=>h,one:=fun h c hc=>by rw [h.1] at hc;simp at hc;subst hc;rfl }
def Rp.bool:Rp Bool:={ k:=1,rel:=fun _ cs b=>cs=[.bool b],len:=fun h=>by rw [h];rfl,mono:=fun _ h=>h,one:=fun h c hc=>by subst h;simp at hc;subst hc;rfl }
def Rp.str:Rp (List UInt8):={ k:=1,rel:=fun _ cs s=>cs=[.string (Go.Sp.str s)]∧s.length≤9223372036854775807,len:=fun h=>by rw [h.1];rfl,mono:=fun _ h=>h,one:=fun h c hc=>by rw [h.1] at hc;simp at hc;subst hc;rfl }
def Rp.slice {α:Type} (T:Rp α):Rp (List α):={ k:=1,rel:=fun h cs xs=>∃ v,cs=[v]∧Arr T h v xs,len:=fun ⟨_,h,_⟩=>by rw [h];rfl,mono:=fun s ⟨v,h,a⟩=>⟨v,h,a.mono s⟩,one:=fun ⟨v,h,a⟩ c hc=>by subst h;simp at hc;subst hc;obtain ⟨_,_,rfl⟩:=a.shape;rfl }
def Rp.val:Rp Value:={ k:=1,rel:=fun _ cs v=>cs=[v]∧v.oneCell' =true,len:=fun h=>by rw [h.1];rfl,mono:=fun _ h=>h,one:=fun h c hc=>by rw [h.1] at hc;simp at hc;subst hc;exact h.2 }
def Rp.cells (k:Nat):Rp (List Value):={ k:=k,rel:=fun _ cs c=>cs=c∧c.length=k∧∀ v∈c,v.oneCell' =true,len:=fun h=>by rw [h.1];exact h.2.1,mono:=fun _ h=>h,one:=fun h c hc=>by rw [h.1] at hc;exact h.2.2 c hc }
theorem Arr.rows {α:Type} {T:Rp α} {h:Fr} {v:Value} {vs:List Value} {xss:List (List α)} (hv:Arr Rp.val h v vs) (ha:All2 (Arr T h) vs xss):Arr (Rp.slice T) h v xss:=by
 obtain ⟨css,h1,h2⟩:=hv;refine ⟨css,?_,by rw [← ha.length];exact h2⟩;clear h2
 induction css generalizing vs xss with
 |nil=>cases vs with
  |nil=>cases xss with
   |nil=>trivial
   |cons _ _=>exact ha.elim
  |cons _ _=>exact h1.elim
 |cons c css ih=>cases vs with
  |nil=>exact h1.elim
  |cons v vs=>cases xss with
   |nil=>exact ha.elim
   |cons x xss=>exact ⟨⟨v,h1.1.1,ha.1⟩,ih ha.2 h1.2⟩
theorem Arr.nil {α:Type} {T:Rp α} {h:Fr}:Arr T h (.slice none 0 0) ([]:List α):=⟨[],trivial,none,0,rfl,Nat.le_refl _,⟨by omega,fun _=>rfl⟩,by simp,fun j hj=>by simp at hj⟩
theorem Arr.nil_of {α:Type} {T:Rp α} {h:Fr} {m c:Nat} {xs:List α} (hk:0<T.k):Arr T h (.slice none m c) xs→xs=[]∧m=0∧c=0
 |⟨css,h1,a,c',h2,_,hc,h5,h6⟩=>by
  cases h2
  refine ⟨?_,?_,hc.2 rfl⟩
  rotate_left
  ·have:=hc.2 rfl;omega
  cases xs with
  |nil=>rfl
  |cons x xs =>
   have:0<css.flatten.length:=by rw [h5];exact Nat.mul_pos (by simp) hk
   obtain ⟨p,hp,_⟩:=h6 0 this
   cases hp
end Go.Sp
end
section
/- Texts of this proof. -/
namespace Go.Sp
section
variable {ro:Option Nat} {P:Program} {σ σ' :List (Nat × Value)} {g:Gr} {η η' ζ:List SProp} {fn:Func} {n:Nat} {R:Ending→World→Prop} {k K:List Item} {D:List Deferred} {ops:Array Oper} {i d:Nat} {l:List Nat} {t e:TypeId} {x y:Operand} {todo:List Item}
theorem Does.loadAt {p:Addr} {cs:List Value} {v:Value} (ht:flat1 P t=true) (hx:ev σ x=some (.pointer (some p))) (hp:At g.h p cs) (hv:cs[0]?=some v):Does P (.load t x) σ g η v η :=
 .load ht hx (by have:=hp.at hv;rwa [Addr.add_zero] at this)
theorem DoesE.imp {op:Op} {A B:Value→List SProp→Prop} (h:DoesE P op σ g η A) (hab:∀ v η',A v η' →B v η'):DoesE P op σ g η B :=
 fun o ρ w h1 h2 h3=>let ⟨v,w',η',a,b,c⟩:=h o ρ w h1 h2 h3;⟨v,w',η',hab _ _ a,b,c⟩
theorem S.loopK {ι:Type} {c:Code} (φ:ι→Prop) (σs:ι→List (Nat × Value)) (keep:List (Nat × Value)) (ηs:ι→List SProp) (μ:ι→Nat) (x₀:ι) (h₀:φ x₀) (hσ:Sub (σs x₀) σ) (hk:Sub keep σ) (hη:η=ηs x₀)
  (round:∀ x,φ x→(∀ y,φ y→μ y<μ x→S ro P fn n R (.inLoop c::k) (σs y++keep) D g (ηs y))→S ro P fn n R (.code c::.inLoop c::k) (σs x++keep) D g (ηs x)) :
  S ro P fn n R (.code (.loop c)::k) σ D g η:=by
 refine S.loop φ (fun x=>σs x++keep) ηs μ x₀ h₀ ?_ hη round
 intro t v hv
 have:∀ (l:List (Nat × Value)),look (l++keep) t=some v→look l t=some v∨look keep t=some v:=by
  intro l
  induction l with
  |nil=>exact .inr
  |cons p l ih =>
   intro h
   obtain ⟨s,u⟩:=p;simp only [List.cons_append,look] at h ⊢
   split at h
   ·exact .inl h
   ·exact ih h
 rcases this _ hv with h|h
 ·exact hσ t v h
 ·exact hk t v h
theorem S.loopK2 {ι κ:Type} {c:Code} (φ:ι→κ→Prop) (σs:ι→κ→List (Nat × Value)) (keep:List (Nat × Value)) (ηs:ι→κ→List SProp) (μ:ι→κ→Nat) (x₀:ι) (y₀:κ) (h₀:φ x₀ y₀) (hσ:Sub (σs x₀ y₀) σ) (hk:Sub keep σ) (hη:η=ηs x₀ y₀)
  (round:∀ x y,φ x y→(∀ x' y',φ x' y' →μ x' y' <μ x y→S ro P fn n R (.inLoop c::k) (σs x' y' ++keep) D g (ηs x' y'))→S ro P fn n R (.code c::.inLoop c::k) (σs x y++keep) D g (ηs x y)) :
  S ro P fn n R (.code (.loop c)::k) σ D g η :=
 S.loopK (ι:=ι × κ) (fun p=>φ p.1 p.2) (fun p=>σs p.1 p.2) keep (fun p=>ηs p.1 p.2) (fun p=>μ p.1 p.2) (x₀,y₀) h₀ hσ hk hη fun p hp ih=>round p.1 p.2 hp fun x' y' h1 h2=>ih (x',y') h1 h2
theorem S.loopK3 {ι κ υ:Type} {c:Code} (φ:ι→κ→υ→Prop) (σs:ι→κ→υ→List (Nat × Value)) (keep:List (Nat × Value)) (ηs:ι→κ→υ→List SProp) (μ:ι→κ→υ→Nat) (x₀:ι) (y₀:κ) (z₀:υ) (h₀:φ x₀ y₀ z₀) (hσ:Sub (σs x₀ y₀ z₀) σ) (hk:Sub keep σ) (hη:η=ηs x₀ y₀ z₀)
  (round:∀ x y z,φ x y z→(∀ x' y' z',φ x' y' z' →μ x' y' z' <μ x y z→S ro P fn n R (.inLoop c::k) (σs x' y' z' ++keep) D g (ηs x' y' z'))→S ro P fn n R (.code c::.inLoop c::k) (σs x y z++keep) D g (ηs x y z)) :
  S ro P fn n R (.code (.loop c)::k) σ D g η :=
 S.loopK (ι:=ι × κ × υ) (fun p=>φ p.1 p.2.1 p.2.2) (fun p=>σs p.1 p.2.1 p.2.2) keep (fun p=>ηs p.1 p.2.1 p.2.2) (fun p=>μ p.1 p.2.1 p.2.2) (x₀,y₀,z₀) h₀ hσ hk hη fun p hp ih=>round p.1 p.2.1 p.2.2 hp fun x' y' z' h1 h2=>ih (x',y',z') h1 h2
theorem S.loopK4 {ι κ υ τ:Type} {c:Code} (φ:ι→κ→υ→τ→Prop) (σs:ι→κ→υ→τ→List (Nat × Value)) (keep:List (Nat × Value)) (ηs:ι→κ→υ→τ→List SProp) (μ:ι→κ→υ→τ→Nat) (x₀:ι) (y₀:κ) (z₀:υ) (u₀:τ) (h₀:φ x₀ y₀ z₀ u₀) (hσ:Sub (σs x₀ y₀ z₀ u₀) σ) (hk:Sub keep σ) (hη:η=ηs x₀ y₀ z₀ u₀)
  (round:∀ x y z u,φ x y z u→(∀ x' y' z' u',φ x' y' z' u' →μ x' y' z' u' <μ x y z u→S ro P fn n R (.inLoop c::k) (σs x' y' z' u' ++keep) D g (ηs x' y' z' u'))→S ro P fn n R (.code c::.inLoop c::k) (σs x y z u++keep) D g (ηs x y z u)) :
  S ro P fn n R (.code (.loop c)::k) σ D g η :=
 S.loopK (ι:=ι × κ × υ × τ) (fun p=>φ p.1 p.2.1 p.2.2.1 p.2.2.2) (fun p=>σs p.1 p.2.1 p.2.2.1 p.2.2.2) keep (fun p=>ηs p.1 p.2.1 p.2.2.1 p.2.2.2) (fun p=>μ p.1 p.2.1 p.2.2.1 p.2.2.2) (x₀,y₀,z₀,u₀) h₀ hσ hk hη
  fun p hp ih=>round p.1 p.2.1 p.2.2.1 p.2.2.2 hp fun x' y' z' u' h1 h2=>ih (x',y',z',u') h1 h2
theorem Sub.consE {v v' :Value} {s:Nat} {τ:List (Nat × Value)} (h:look σ s=some v) (e:v=v') (hs:Sub τ σ):Sub ((s,v')::τ) σ:=by subst e;exact Sub.cons h hs
theorem S.slot {v v' :Value} (s:Nat) (hl:look σ s=some v) (e:v=v') (h:S ro P fn n R todo ((s,v')::σ) D g η):S ro P fn n R todo σ D g η:=S.weaken (Sub.consE hl e Sub.refl) h
theorem O.slot {v v' :Value} {L:List Nat} (s:Nat) (hl:look σ s=some v) (e:v=v') (h:O ro P fn n R ops L k ((s,v')::σ) D g η):O ro P fn n R ops L k σ D g η:=O.weaken (Sub.consE hl e Sub.refl) h
theorem O.call0 {f:FuncId} {xs:Array Operand} {ts:Array TypeId} {vals:List Value} {K' :Value→List SProp→Prop} {first cap:Array Value} (ho:Fires ops i n σ d (.call ⟨.value x,xs,ts⟩)) (hx:ev σ x=some (.func (.func f) first cap)) (hc:callable P f=true)
  (hv:evs σ xs.toList=some vals) {args:Array Value} (hargs:first++vals.toArray++cap=args) (con:Con P f args g.h [] (Ret K'))
  (h:∀ v η',K' v η' →O ro P fn n R ops l k ((d,v)::σ) D g (η' ++η)):O ro P fn n R ops (i::l) k σ D g η:=O.call (η:=[]) (ζ:=η) ho hx hc hv hargs con h
theorem ODg.call0 {f:FuncId} {xs:Array Operand} {ts:Array TypeId} {vals:List Value} {K' :Value→List SProp→Prop} {first cap:Array Value} (ho:Fires ops i n σ d (.call ⟨.value x,xs,ts⟩)) {fl:Bool} (hd:hdOk fl ops i l=true) (hx:ev σ x=some (.func (.func f) first cap)) (hc:callable P f=true)
  (hv:evs σ xs.toList=some vals) {args:Array Value} (hargs:first++vals.toArray++cap=args) (con:Con P f args g.h [] (Ret K'))
  (h:∀ v η',K' v η' →OD P fn n R ops k D g l ((d,v)::σ) (η' ++η)):ODx P fn n R ops k D g fl (i::l) σ η:=ODg.call (η:=[]) (ζ:=η) ho hd hx hc hv hargs con h
theorem OD.call0 {f:FuncId} {xs:Array Operand} {ts:Array TypeId} {vals:List Value} {K' :Value→List SProp→Prop} {first cap:Array Value} (ho:Fires ops i n σ d (.call ⟨.value x,xs,ts⟩)) (hd:descOk ops [i] l=true) (hx:ev σ x=some (.func (.func f) first cap)) (hc:callable P f=true) (hv:evs σ xs.toList=some vals) {args:Array Value} (hargs:first++vals.toArray++cap=args) (con:Con P f args g.h [] (Ret K')) (h:∀ v η',K' v η' →OD P fn n R ops k D g l ((d,v)::σ) (η' ++η)):OD P fn n R ops k D g (i::l) σ η:=ODg.call0 (fl:=false) ho (by simpa [hdOk] using hd) hx hc hv hargs con h
theorem ODt.call0 {f:FuncId} {xs:Array Operand} {ts:Array TypeId} {vals:List Value} {K' :Value→List SProp→Prop} {first cap:Array Value} (ho:Fires ops i n σ d (.call ⟨.value x,xs,ts⟩)) (_:true=true) (hx:ev σ x=some (.func (.func f) first cap)) (hc:callable P f=true) (hv:evs σ xs.toList=some vals) {args:Array Value} (hargs:first++vals.toArray++cap=args) (con:Con P f args g.h [] (Ret K')) (h:∀ v η',K' v η' →OD P fn n R ops k D g l ((d,v)::σ) (η' ++η)):ODx P fn n R ops k D g true (i::l) σ η:=ODg.call0 (fl:=true) ho rfl hx hc hv hargs con h
inductive Sels:List SProp→List SProp→List SProp→Prop
 |nil {η:List SProp}:Sels η [] η
 |cons {η ζ θ:List SProp} {A:SProp} {bs:List SProp}:Sel η A ζ→Sels ζ bs θ→Sels η (A::bs) θ
theorem Sels.perm {η bs θ:List SProp} (s:Sels η bs θ):η.Perm (bs++θ):=by
 induction s with
 |nil=>exact .refl _
 |cons s _ ih=>exact s.perm.trans (.cons _ ih)
theorem Con.lent {f:FuncId} {args:Array Value} {h:Fr} {bs:List SProp} {Post:Ending→List SProp→Prop} (con:∀ m:Fr,Sat bs m→h.disj m→Con P f args (h.add m) [] Post) :
  Con P f args h bs fun e η' =>∃ η₁,Post e η₁∧η' =η₁++bs:=fun g hg w hw=>by
 obtain ⟨m,hm,hd,hw'⟩:=Holds.freezeAll (η:=[]) (ζ:=bs) hw;have hd' :h.disj m:=Fr.disj_sub hd hg (Fr.sub_refl _);refine (con m hm hd' (g.add m) (Fr.add_sub (Fr.sub_trans hg (Fr.sub_add_left _ _)) (Fr.sub_add_right hd)) w hw').mono fun e w' ⟨η',x,y⟩=>⟨η' ++bs,⟨η',x,rfl⟩,y.thawAll hm hd⟩
theorem O.callB {f:FuncId} {xs:Array Operand} {ts:Array TypeId} {vals:List Value} {K' :Value→List SProp→Prop} {first cap:Array Value} (ho:Fires ops i n σ d (.call ⟨.value x,xs,ts⟩)) (hx:ev σ x=some (.func (.func f) first cap)) (hc:callable P f=true)
  (hv:evs σ xs.toList=some vals) {args:Array Value} (hargs:first++vals.toArray++cap=args) {bs:List SProp} (hb:Sels η bs ζ) (con:∀ m:Fr,Sat bs m→g.h.disj m→Con P f args (g.h.add m) [] (Ret K'))
  (h:∀ v η',K' v η' →O ro P fn n R ops l k ((d,v)::σ) D g (η' ++(bs++ζ))):O ro P fn n R ops (i::l) k σ D g η:=by
 have hcon:Con P f args g.h bs (Ret fun v η' =>∃ η₁,K' v η₁∧η' =η₁++bs):=(Con.lent con).mono fun e η' ⟨η₁,a,b⟩=>by
  cases e with
  |returned v=>exact ⟨η₁,a,b⟩
  |panicked _=>exact a.elim
  |outgrown=>exact a.elim
 have:=O.call (ζ:=ζ) ho hx hc hv hargs hcon (R:=R) (l:=l) (k:=k) (D:=D) (fn:=fn) fun v η' ⟨η₁,a,b⟩=>by
  subst b;rw [List.append_assoc];exact h v η₁ a
 exact fun a w hf hd hw=>this a w hf hd (hw.perm hb.perm)
theorem ODx.perm {fl:Bool} {L:List Nat} (p:η.Perm η') (h:ODx P fn n R ops k D g fl L σ η'):ODx P fn n R ops k D g fl L σ η:=by
 induction h generalizing η with
 |nil h=>exact .nil (S.perm p h)
 |quiet ho hna hdo h ih=>exact .quiet ho hna hdo (ih p)
 |no ho hna hl hvb h ih=>exact .no ho hna hl hvb (ih p)
 |lazy ho hd hz h ih=>exact .lazy ho hd hz fun b=>ih b (p.cons _)
 |@callT i d l σ η₁ ζ₁ f x xs ts vals K' X' first cap args ho hx hc hv hargs con hp h ih =>
  have con' :Con P f args g.h η (RetP (fun v η' =>∃ η₂,K' v η₂∧η' =η₂++ζ₁) (fun ch η' =>∃ η₂,X' ch η₂∧η' =η₂++ζ₁)):=fun g' hg w hw=>((con.frame (ζ:=ζ₁)) g' hg w (hw.perm p)).mono fun e w' ⟨η',a,b⟩=>⟨η',by
   cases e with
   |returned v=>exact a
   |panicked _=>exact a
   |outgrown=>obtain ⟨_,h1,_⟩:=a;exact h1.elim,b⟩
  have:=ODx.callT (η:=η) (ζ:=[]) (l:=l) ho hx hc hv hargs con' (fun a ch η' w ⟨η₂,h1,h2⟩ hw=>hp a ch η₂ w h1 (by subst h2;simpa using hw)) fun v η' ⟨η₂,h1,h2⟩=>ih v η₂ h1 (η:=η' ++[]) (by subst h2;simp)
  simpa using this
 |@loudE i d op l σ η₀ K' ho hna hdo h ih =>
  exact .loudE ho hna (K:=K') (fun ζ o ρ w h1 h2 h3=>hdo ζ o ρ w h1 h2 (h3.perm (p.append_right _))) fun v η' a=>ih v η' a (.refl _)
 |loudU ho hna hdo h ih =>
  exact .loudU ho hna (fun ζ o ρ w h1 h2 h3=>hdo ζ o ρ w h1 h2 (h3.perm (p.append_right _))) (ih (.refl _))
 |lastU ho hna hl hdo h=>exact .lastU ho hna hl (fun o ρ w h1 h2 h3=>hdo o ρ w h1 h2 (h3.perm p)) h
 |one hd h ih=>exact .one hd (ih p)
 |swap l' hp h ih=>exact .swap l' hp (ih p)
 |alt cands hok h ih=>exact .alt cands hok fun i hi=>ih i hi p
theorem OD.perm {L:List Nat} (p:η.Perm η') (h:OD P fn n R ops k D g L σ η'):OD P fn n R ops k D g L σ η:=ODx.perm p h
theorem ODg.callB {f:FuncId} {xs:Array Operand} {ts:Array TypeId} {vals:List Value} {K' :Value→List SProp→Prop} {first cap:Array Value} (ho:Fires ops i n σ d (.call ⟨.value x,xs,ts⟩)) {fl:Bool} (hd:hdOk fl ops i l=true) (hx:ev σ x=some (.func (.func f) first cap)) (hc:callable P f=true)
  (hv:evs σ xs.toList=some vals) {args:Array Value} (hargs:first++vals.toArray++cap=args) {bs:List SProp} (hb:Sels η bs ζ) (con:∀ m:Fr,Sat bs m→g.h.disj m→Con P f args (g.h.add m) [] (Ret K'))
  (h:∀ v η',K' v η' →OD P fn n R ops k D g l ((d,v)::σ) (η' ++(bs++ζ))):ODx P fn n R ops k D g fl (i::l) σ η:=by
 have hcon:Con P f args g.h bs (Ret fun v η' =>∃ η₁,K' v η₁∧η' =η₁++bs):=(Con.lent con).mono fun e η' ⟨η₁,a,b⟩=>by
  cases e with
  |returned v=>exact ⟨η₁,a,b⟩
  |panicked _=>exact a.elim
  |outgrown=>exact a.elim
 exact ODx.perm hb.perm (ODg.call (ζ:=ζ) ho hd hx hc hv hargs hcon fun v η' ⟨η₁,a,b⟩=>by
  subst b;rw [List.append_assoc];exact h v η₁ a)
theorem OD.callB {f:FuncId} {xs:Array Operand} {ts:Array TypeId} {vals:List Value} {K' :Value→List SProp→Prop} {first cap:Array Value} (ho:Fires ops i n σ d (.call ⟨.value x,xs,ts⟩)) (hd:descOk ops [i] l=true) (hx:ev σ x=some (.func (.func f) first cap)) (hc:callable P f=true) (hv:evs σ xs.toList=some vals) {args:Array Value} (hargs:first++vals.toArray++cap=args) {bs:List SProp} (hb:Sels η bs ζ) (con:∀ m:Fr,Sat bs m→g.h.disj m→Con P f args (g.h.add m) [] (Ret K')) (h:∀ v η',K' v η' →OD P fn n R ops k D g l ((d,v)::σ) (η' ++(bs++ζ))):OD P fn n R ops k D g (i::l) σ η:=ODg.callB (fl:=false) ho (by simpa [hdOk] using hd) hx hc hv hargs hb con h
theorem ODt.callB {f:FuncId} {xs:Array Operand} {ts:Array TypeId} {vals:List Value} {K' :Value→List SProp→Prop} {first cap:Array Value} (ho:Fires ops i n σ d (.call ⟨.value x,xs,ts⟩)) (_:true=true) (hx:ev σ x=some (.func (.func f) first cap)) (hc:callable P f=true) (hv:evs σ xs.toList=some vals) {args:Array Value} (hargs:first++vals.toArray++cap=args) {bs:List SProp} (hb:Sels η bs ζ) (con:∀ m:Fr,Sat bs m→g.h.disj m→Con P f args (g.h.add m) [] (Ret K')) (h:∀ v η',K' v η' →OD P fn n R ops k D g l ((d,v)::σ) (η' ++(bs++ζ))):ODx P fn n R ops k D g true (i::l) σ η:=ODg.callB (fl:=true) ho rfl hx hc hv hargs hb con h
theorem O.callS {f:FuncId} {xs:Array Operand} {ts:Array TypeId} {vals:List Value} {K' :Value→List SProp→Prop} {first cap:Array Value} {A:SProp} (ho:Fires ops i n σ d (.call ⟨.value x,xs,ts⟩)) (hx:ev σ x=some (.func (.func f) first cap)) (hc:callable P f=true)
  (hv:evs σ xs.toList=some vals) {args:Array Value} (hargs:first++vals.toArray++cap=args) (hs:Sel η A ζ) (con:Con P f args g.h [A] (Ret K'))
  (h:∀ v η',K' v η' →O ro P fn n R ops l k ((d,v)::σ) D g (η' ++ζ)):O ro P fn n R ops (i::l) k σ D g η :=
 fun a w hf hd hw=>O.call (η:=[A]) (ζ:=ζ) ho hx hc hv hargs con h a w hf hd (hw.sel hs)
theorem ODg.callS {f:FuncId} {xs:Array Operand} {ts:Array TypeId} {vals:List Value} {K' :Value→List SProp→Prop} {first cap:Array Value} {A:SProp} (ho:Fires ops i n σ d (.call ⟨.value x,xs,ts⟩)) {fl:Bool} (hd:hdOk fl ops i l=true) (hx:ev σ x=some (.func (.func f) first cap)) (hc:callable P f=true)
  (hv:evs σ xs.toList=some vals) {args:Array Value} (hargs:first++vals.toArray++cap=args) (hs:Sel η A ζ) (con:Con P f args g.h [A] (Ret K'))
  (h:∀ v η',K' v η' →OD P fn n R ops k D g l ((d,v)::σ) (η' ++ζ)):ODx P fn n R ops k D g fl (i::l) σ η :=
 ODx.perm hs.perm (ODg.call (η:=[A]) (ζ:=ζ) ho hd hx hc hv hargs con h)
theorem OD.callS {f:FuncId} {xs:Array Operand} {ts:Array TypeId} {vals:List Value} {K' :Value→List SProp→Prop} {first cap:Array Value} {A:SProp} (ho:Fires ops i n σ d (.call ⟨.value x,xs,ts⟩)) (hd:descOk ops [i] l=true) (hx:ev σ x=some (.func (.func f) first cap)) (hc:callable P f=true) (hv:evs σ xs.toList=some vals) {args:Array Value} (hargs:first++vals.toArray++cap=args) (hs:Sel η A ζ) (con:Con P f args g.h [A] (Ret K')) (h:∀ v η',K' v η' →OD P fn n R ops k D g l ((d,v)::σ) (η' ++ζ)):OD P fn n R ops k D g (i::l) σ η:=ODg.callS (fl:=false) ho (by simpa [hdOk] using hd) hx hc hv hargs hs con h
theorem ODt.callS {f:FuncId} {xs:Array Operand} {ts:Array TypeId} {vals:List Value} {K' :Value→List SProp→Prop} {first cap:Array Value} {A:SProp} (ho:Fires ops i n σ d (.call ⟨.value x,xs,ts⟩)) (_:true=true) (hx:ev σ x=some (.func (.func f) first cap)) (hc:callable P f=true) (hv:evs σ xs.toList=some vals) {args:Array Value} (hargs:first++vals.toArray++cap=args) (hs:Sel η A ζ) (con:Con P f args g.h [A] (Ret K')) (h:∀ v η',K' v η' →OD P fn n R ops k D g l ((d,v)::σ) (η' ++ζ)):ODx P fn n R ops k D g true (i::l) σ η:=ODg.callS (fl:=true) ho rfl hx hc hv hargs hs con h
theorem O.perm {L:List Nat} (p:η.Perm ζ) (h:O ro P fn n R ops L k σ D g ζ):O ro P fn n R ops L k σ D g η:=fun a w hf hd hw=>h a w hf hd (hw.perm p)
theorem O.sel {L:List Nat} {A:SProp} (s:Sel η A ζ) (h:O ro P fn n R ops L k σ D g (A::ζ)):O ro P fn n R ops L k σ D g η:=fun a w hf hd hw=>h a w hf hd (hw.sel s)
theorem O.imp {L:List Nat} (hs:∀ m,Sat η m→Sat η' m) (h:O ro P fn n R ops L k σ D g η'):O ro P fn n R ops L k σ D g η:=fun a w hf hd hw=>h a w hf hd (hw.imp hs)
theorem O.freeze {L:List Nat} {A:SProp} (h:∀ m:Fr,A m→g.h.disj m→O ro P fn n R ops L k σ D (g.add m) η):O ro P fn n R ops L k σ D g (A::η) :=
 fun a w hf hd hw=>by
  obtain ⟨m,hm,hdj,hw'⟩:=hw.freeze;exact h m hm hdj a w hf hd hw'
theorem O.panic {L:List Nat} {v:Value} {tt:TypeId} (ho:opAtU ops i=some (.panic x)) (hx:ev σ x=some (.iface tt v)) (h:∀ w,Holds w g η→R (.panicked [{ v:=.iface tt v,recovered:=false }]) w):O ro P fn n R ops (i::L) k σ [] g η:=by
 intro a w hf hd hw
 obtain ⟨o,hi,hdst,hop,hg⟩:=opAtU_spec ho;have hrun:(execOp a.eval o).run P w=.halt (.panic (.iface tt v)) w:=by
  simp [execOp,hop,hf.eval hx,Instr.panic]
 refine O.fire hi (by simp [Region.wanted,hg]) (by rw [hop];intro c hc;cases hc) hrun ?_;rw [Oper.uponIn_panic];exact Post.panic hd (h w hw)
theorem run_equal_pointer_nil (ht:P.underlying t=some (.pointer e)) (a:Option Addr) (w:World):(Op.equal t (.pointer a) (.pointer none)).run P w=.ok a.isNone w:=by
 show (Op.equalIn (9999+1) t (.pointer a) (.pointer none)).run P w=_
 rw [Op.equalIn]
 cases a<;>simp [run_underlying ht]
theorem Does.eqlP {u:TypeId} {a:Option Addr} (ht:P.underlying t=some (.pointer e)) (hx:ev σ x=some (.pointer a)) (hy:ev σ y=some (.pointer none)):Does P (.binOp .eql t x y u) σ g η (.bool a.isNone) η :=
 .run fun o ρ w ho hk=>by simp [execOp,ho,hk x _ hx,hk y _ hy,eqGuard,Go.binOp,run_equal_pointer_nil ht]
theorem Does.neqP {u:TypeId} {a:Option Addr} (ht:P.underlying t=some (.pointer e)) (hx:ev σ x=some (.pointer a)) (hy:ev σ y=some (.pointer none)):Does P (.binOp .neq t x y u) σ g η (.bool (!a.isNone)) η :=
 .run fun o ρ w ho hk=>by simp [execOp,ho,hk x _ hx,hk y _ hy,eqGuard,Go.binOp,run_equal_pointer_nil ht]
theorem Does.eqlNil {u:TypeId} {a:Option Addr} {m c:Nat} (ht:P.underlying t=some (.slice e)) (hx:ev σ x=some (.slice a m c)) (hy:ev σ y=some (.slice none 0 0)):Does P (.binOp .eql t x y u) σ g η (.bool a.isNone) η :=
 .run fun o ρ w ho hk=>by simp [execOp,ho,hk x _ hx,hk y _ hy,eqGuard,Go.binOp,run_equal_slice_nil w t e a m c ht]
def notIface:TypeDesc→Bool
 |.interface _=>false
 |_=>true
theorem Does.mkIface {v:Value} {dd:TypeDesc} (ht:P.underlying t=some dd) (hx:ev σ x=some v) (hn:notIface dd=true:=by rfl):Does P (.makeInterface t x) σ g η (.iface t v) η :=
 .run fun o ρ w ho hk=>by
  simp only [execOp,ho,hk x _ hx,Instr.makeInterface,Sem.run_bind,run_underlying ht,Result.andThen_ok]
  cases dd<;>first|(simp;done)|exact Bool.noConfusion hn
def placesOf (P:Program):List Field→Option (List (Nat × Nat))
 |[]=>some []
 |f::fs=>match (P.info? f.type).map (·.size),placesOf P fs with|some m,some ps=>some ((f.offset,m)::ps)|_,_=>none
theorem run_places:∀ (fs:List Field) (ps:List (Nat × Nat)),placesOf P fs=some ps→∀ w,(fs.mapM fun (f:Field)=>(do pure (f.offset,← sizeOf f.type):Sem (Nat × Nat))).run P w=.ok ps w
 |[],ps,h,w=>by cases h;simp
 |f::fs,ps,h,w=>by
  simp only [placesOf] at h
  split at h
  ·rename_i m qs hm hq
   cases h
   have ih:=run_places fs qs hq w;simp only [List.mapM_cons,Sem.run_bind,run_sizeOf hm,Result.andThen_ok,Sem.run_pure,ih]
  ·cases h
def evps (σ:List (Nat × Value)):List (Nat × Operand)→Option (List (Nat × Value))
 |[]=>some []
 |(j,x)::r=>match ev σ x,evps σ r with|some v,some vs=>some ((j,v)::vs)|_,_=>none
theorem evps_spec {ρ:Operand→Value} (hk:Knows σ ρ):∀ {xs:List (Nat × Operand)} {vs:List (Nat × Value)},evps σ xs=some vs→xs.map (fun p=>(p.1,ρ p.2))=vs
 |[],_,h=>by cases h;rfl
 |(j,x)::xs,vs,h=>by
  simp only [evps] at h
  split at h
  ·rename_i v us hv hus;cases h;simp [hk x v hv,evps_spec hk hus]
  ·cases h
def setAt:List Value→Nat→List Value→List Value
 |[],_,_=>[]
 |c::z,n+1,vs=>c::setAt z n vs
 |c::z,0,[]=>c::z
 |_::z,0,v::vs=>v::setAt z 0 vs
theorem setAt_eq:∀ (z:List Value) (n:Nat) (vs:List Value),n+vs.length≤z.length→setAt z n vs=z.take n++vs++z.drop (n+vs.length)
 |[],n,vs,h=>by simp at h;obtain ⟨rfl,rfl⟩:=h;rfl
 |c::z,n+1,vs,h=>by
  have:=setAt_eq z n vs (by simp at h;omega);simp only [setAt,this,List.take_succ_cons,List.cons_append];rw [show n+1+vs.length=(n+vs.length)+1 from by omega,List.drop_succ_cons]
 |c::z,0,[],h=>by simp [setAt]
 |c::z,0,v::vs,h=>by
  have:=setAt_eq z 0 vs (by simp at h;omega);simp only [setAt,this]
  simp
def fillL (ps:List (Nat × Nat)):List Value→List (Nat × List Value)→Option (List Value)
 |z,[]=>some z
 |z,(i,c)::r=>match ps[i]? with
  |some (off,m)=>match Nat.beq c.length m,Nat.ble (off+m) z.length with
   |true,true=>fillL ps (setAt z off c) r
   |_,_=>none
  |none=>none
def cellsL:List (Nat × Value)→List (Nat × List Value)
 |[]=>[]
 |(i,v)::r=>(i,v.cells.toList)::cellsL r
theorem fill_L {ps:List (Nat × Nat)}:∀ (vs:List (Nat × Value)) (z cs:List Value),fillL ps z (cellsL vs)=some cs→Instr.fill (ps[·]?) z.toArray vs=some cs.toArray
 |[],z,cs,h=>by cases h;rfl
 |(i,v)::vs,z,cs,h=>by
  simp only [cellsL,fillL] at h
  split at h
  ·rename_i off m hp
   split at h
   ·rename_i hb hl
    have hb:=Nat.eq_of_beq_eq_true hb;have hl:=Nat.le_of_ble_eq_true hl;have hs:v.cells.size=m:=by simpa using hb
    simp only [Instr.fill,hp];have h2:(decide (v.cells.size≠m) ||decide (off+v.cells.size>z.toArray.size))=false:=by simp;omega
    have hf:(v.cells.zipIdx.foldl (fun cs (x:Value × Nat)=>cs.setIfInBounds (off+x.2) x.1) z.toArray)=(setAt z off v.cells.toList).toArray:=by
     rw [← Array.foldl_toList,Array.toList_zipIdx,setAt_eq _ _ _ (by simpa [hs] using hl)];refine foldl_set v.cells.toList (z.take off) ((z.drop off).take m) (z.drop (off+v.cells.toList.length)) 0 off z.toArray ?_ ?_ ?_
     ·rw [hb,← List.drop_drop,List.append_assoc,List.take_append_drop,List.take_append_drop]
     ·simp [hs];omega
     ·simp;omega
    rw [if_neg (by rw [h2];exact Bool.false_ne_true)];refine (congrArg (fun c=>Instr.fill _ c _) hf).trans (fill_L vs _ cs h)
   ·cases h
  ·cases h
theorem Does.build {fs:Array Field} {z:Value} {zs:List Value} {ps:List (Nat × Nat)} {parts:Array (Nat × Operand)} {vs:List (Nat × Value)} {cs:List Value} (ht:P.underlying t=some (.struct fs)) (hz:zeroOf P t=some z) (hzs:z.cells.toList=zs) (hps:placesOf P fs.toList=some ps)
  (hp:evps σ parts.toList=some vs) (hf:fillL ps zs (cellsL vs)=some cs):Does P (.build t parts) σ g η (.agg cs.toArray) η :=
 .run fun o ρ w ho hk=>by
  subst hzs;have hm:(parts.map fun (p:Nat × Operand)=>(p.1,ρ p.2)).toList=vs:=by rw [Array.toList_map];exact evps_spec hk hp
  have hpl:(fs.mapM fun (f:Field)=>(do pure (f.offset,← sizeOf f.type):Sem (Nat × Nat))).run P w=.ok ps.toArray w:=by
   rw [Array.mapM_eq_mapM_toList,Sem.run_map,run_places _ _ hps];rfl
  have hf' :Instr.fill (fun j=>ps.toArray[j]?) z.cells (parts.map fun (p:Nat × Operand)=>(p.1,ρ p.2)).toList=some cs.toArray:=by
   have:=fill_L vs _ _ hf;rw [hm];rw [Array.toArray_toList] at this;rw [← this];congr 1;funext j;simp
  have hb:(Instr.build t (parts.map fun (p:Nat × Operand)=>(p.1,ρ p.2))).run P w=.ok (.agg cs.toArray) w:=by
   simp only [Instr.build,Sem.run_bind,run_zeroOf hz,Result.andThen_ok,run_underlying ht,hpl,hf']
   rfl
  have e1:(parts.map fun x=>match x with|(i,x)=>(i,ρ x))=parts.map fun (p:Nat × Operand)=>(p.1,ρ p.2):=rfl;simp only [execOp,ho,Sem.run_bind];rw [e1,hb];rfl
end
theorem zsn {η:List SProp}:Sels η [] η:=.nil
theorem zsc {η ζ θ:List SProp} {A:SProp} {bs:List SProp} (h:Sel η A ζ) (k:Sels ζ bs θ):Sels η (A::bs) θ:=.cons h k
end Go.Sp
end
end
end
