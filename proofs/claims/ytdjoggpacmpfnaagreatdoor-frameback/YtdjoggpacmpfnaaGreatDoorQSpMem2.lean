/- Texts of this proof, one behind the other. -/
import Derived.WalkKit
import Derived.Defers
import Derived.Recover
import Derived.Orders
import Derived.RangeFuncLeaves
import Derived.WalkLawsBesides
import Derived.IntWalk
section
/- Texts of this proof, one behind the other. -/
section
/- Texts of this proof. -/
namespace Go.Sp
abbrev Fr:=Nat→Option Obj
namespace Fr
def sub (h k:Fr):Prop:=∀ i o,h i=some o→k i=some o
def disj (h k:Fr):Prop:=∀ i,h i=none∨k i=none
def add (h k:Fr):Fr:=fun i=>(h i).or (k i)
def one (b:Nat) (o:Obj):Fr:=fun i=>if i=b then some o else none
def emp:Fr:=fun _=>none
theorem sub_refl (h:Fr):h.sub h:=fun _ _ x=>x
theorem sub_trans {a b c:Fr} (h:a.sub b) (k:b.sub c):a.sub c:=fun i o x=>k i o (h i o x)
theorem disj_symm {a b:Fr} (h:a.disj b):b.disj a:=fun i=>(h i).symm
theorem disj_sub {a b a' b' :Fr} (h:a.disj b) (ha:a'.sub a) (hb:b'.sub b):a'.disj b' :=fun i=>by
 rcases h i with x|x
 ·left;cases hx:a' i with
  |none=>rfl
  |some o=>rw [ha i o hx] at x;cases x
 ·right;cases hx:b' i with
  |none=>rfl
  |some o=>rw [hb i o hx] at x;cases x
theorem sub_add_left (a b:Fr):a.sub (a.add b):=fun i o h=>by simp [add,h]
theorem sub_add_right {a b:Fr} (hd:a.disj b):b.sub (a.add b):=fun i o h=>by
 rcases hd i with x|x
 ·simp [add,x,h]
 ·rw [h] at x;cases x
theorem add_sub {a b c:Fr} (ha:a.sub c) (hb:b.sub c):(a.add b).sub c:=fun i o h=>by
 simp only [add] at h
 cases hx:a i with
 |none=>rw [hx] at h;exact hb i o (by simpa using h)
 |some x=>rw [hx] at h;exact ha i o (by rw [hx];simpa using h)
theorem disj_add {a b c:Fr} (h1:a.disj c) (h2:b.disj c):(a.add b).disj c:=fun i=>by
 rcases h1 i with x|x
 ·rcases h2 i with y|y
  ·left;simp [add,x,y]
  ·exact .inr y
 ·exact .inr x
theorem disj_add_right {a b c:Fr} (h1:c.disj a) (h2:c.disj b):c.disj (a.add b):=disj_symm (disj_add (disj_symm h1) (disj_symm h2))
theorem emp_disj (a:Fr):emp.disj a:=fun _=>.inl rfl
theorem emp_sub (a:Fr):emp.sub a:=fun _ _ h=>by cases h
end Fr
abbrev SProp:=Fr→Prop
def Sat:List SProp→Fr→Prop
 |[],_=>True
 |A::η,h=>∃ h1 h2:Fr,h1.disj h2∧h1.sub h∧h2.sub h∧A h1∧Sat η h2
theorem Sat.mono:∀ {η:List SProp} {h k:Fr},h.sub k→Sat η h→Sat η k
 |[],_,_,_,_=>trivial
 |_::_,_,_,hs,⟨h1,h2,hd,a,b,x,y⟩=>⟨h1,h2,hd,Fr.sub_trans a hs,Fr.sub_trans b hs,x,y⟩
theorem Sat.cons {A:SProp} {η:List SProp} {h1 h2:Fr} (hd:h1.disj h2) (x:A h1) (y:Sat η h2):Sat (A::η) (h1.add h2) :=
 ⟨h1,h2,hd,Fr.sub_add_left _ _,Fr.sub_add_right hd,x,y⟩
theorem Sat.append:∀ {η ζ:List SProp} {h1 h2:Fr},h1.disj h2→Sat η h1→Sat ζ h2→Sat (η++ζ) (h1.add h2)
 |[],_,_,_,hd,_,y=>Sat.mono (Fr.sub_add_right hd) y
 |_::_,_,h1,h2,hd,⟨k1,k2,kd,s1,s2,x,y⟩,z=>by
  have d2:k2.disj h2:=Fr.disj_sub hd s2 (Fr.sub_refl _);refine ⟨k1,k2.add h2,Fr.disj_add_right kd (Fr.disj_sub hd s1 (Fr.sub_refl _)),Fr.sub_trans s1 (Fr.sub_add_left _ _),?_,x,Sat.append d2 y z⟩;exact Fr.add_sub (Fr.sub_trans s2 (Fr.sub_add_left _ _)) (Fr.sub_add_right hd)
theorem Sat.split:∀ {η ζ:List SProp} {h:Fr},Sat (η++ζ) h→∃ h1 h2:Fr,h1.disj h2∧h1.sub h∧h2.sub h∧Sat η h1∧Sat ζ h2
 |[],_,h,x=>⟨Fr.emp,h,Fr.emp_disj _,Fr.emp_sub _,Fr.sub_refl _,trivial,x⟩
 |_::η,ζ,h,⟨k1,k2,kd,s1,s2,x,y⟩=>by
  obtain ⟨m1,m2,md,t1,t2,p,q⟩:=Sat.split y;have d1:k1.disj m1:=Fr.disj_sub kd (Fr.sub_refl _) t1;have d2:k1.disj m2:=Fr.disj_sub kd (Fr.sub_refl _) t2;exact ⟨k1.add m1,m2,Fr.disj_add d2 md,Fr.add_sub s1 (Fr.sub_trans t1 s2),Fr.sub_trans t2 s2,Sat.cons d1 x p,q⟩
theorem Sat.swap {A B:SProp} {η:List SProp} {h:Fr}:Sat (A::B::η) h→Sat (B::A::η) h:=by
 rintro ⟨h1,h2,hd,s1,s2,x,k1,k2,kd,t1,t2,y,z⟩;have d1:h1.disj k1:=Fr.disj_sub hd (Fr.sub_refl _) t1;have d2:h1.disj k2:=Fr.disj_sub hd (Fr.sub_refl _) t2;exact ⟨k1,h1.add k2,Fr.disj_add_right (Fr.disj_symm d1) kd,Fr.sub_trans t1 s2,Fr.add_sub s1 (Fr.sub_trans t2 s2),y,Sat.cons d2 x z⟩
theorem Sat.cons_imp {A B:SProp} {η ζ:List SProp} {h:Fr} (hab:∀ h,A h→B h) (hs:∀ h,Sat η h→Sat ζ h):Sat (A::η) h→Sat (B::ζ) h :=
 fun ⟨h1,h2,hd,s1,s2,x,y⟩=>⟨h1,h2,hd,s1,s2,hab _ x,hs _ y⟩
theorem Sat.perm {η ζ:List SProp} (p:η.Perm ζ):∀ {h:Fr},Sat η h→Sat ζ h:=by
 induction p with
 |nil=>exact fun x=>x
 |cons A _ ih=>exact fun x=>Sat.cons_imp (fun _ y=>y) (fun _ y=>ih y) x
 |swap A B _=>exact fun x=>Sat.swap x
 |trans _ _ ih1 ih2=>exact fun x=>ih2 (ih1 x)
inductive Sel:List SProp→SProp→List SProp→Prop
 |here {A:SProp} {η:List SProp}:Sel (A::η) A η
 |there {A B:SProp} {η ζ:List SProp}:Sel η A ζ→Sel (B::η) A (B::ζ)
theorem Sel.perm {η ζ:List SProp} {A:SProp} (s:Sel η A ζ):η.Perm (A::ζ):=by
 induction s with
 |here=>exact .refl _
 |there _ ih=>exact (List.Perm.cons _ ih).trans (.swap _ _ _)
structure Gr where
 h:Fr
 os:Os
 tape:Nat→Question→Nat
 out:Array (Nat × ByteArray)
 dr:Nat
def Gr.add (g:Gr) (k:Fr):Gr:={ g with h:=g.h.add k }
end Go.Sp
namespace Go
def World.fr (w:World):Sp.Fr:=fun i=>w.heap[i]?
def World.gr (w:World):Sp.Gr:=⟨w.fr,w.os,w.tape,w.output,w.drawn⟩
end Go
namespace Go.Sp
def Holds (w:World) (g:Gr) (η:List SProp):Prop :=
 w.os=g.os∧w.tape=g.tape∧(w.output=g.out∧g.dr≤w.drawn)∧∃ h:Fr,g.h.disj h∧g.h.sub w.fr∧h.sub w.fr∧Sat η h
theorem Holds.perm {w:World} {g:Gr} {η ζ:List SProp} (h:Holds w g η) (p:η.Perm ζ):Holds w g ζ :=
 ⟨h.1,h.2.1,h.2.2.1,let ⟨k,a,b,c,d⟩:=h.2.2.2;⟨k,a,b,c,d.perm p⟩⟩
theorem Holds.sel {w:World} {g:Gr} {η ζ:List SProp} {A:SProp} (h:Holds w g η) (s:Sel η A ζ):Holds w g (A::ζ):=h.perm s.perm
theorem Holds.imp {w:World} {g:Gr} {η ζ:List SProp} (h:Holds w g η) (hs:∀ k,Sat η k→Sat ζ k):Holds w g ζ :=
 ⟨h.1,h.2.1,h.2.2.1,let ⟨k,a,b,c,d⟩:=h.2.2.2;⟨k,a,b,c,hs _ d⟩⟩
theorem Holds.entail {w:World} {g:Gr} {η ζ:List SProp} {A:SProp} (h:Holds w g (A::η)) (hs:∀ k,A k→Sat ζ k):Holds w g (ζ++η) :=
 h.imp fun _ ⟨_,_,hd,s1,s2,x,y⟩=>Sat.mono (Fr.add_sub s1 s2) (Sat.append hd (hs _ x) y)
theorem Holds.drop {w:World} {g:Gr} {η:List SProp} {A:SProp} (h:Holds w g (A::η)):Holds w g η :=
 h.imp fun _ ⟨_,_,_,_,s2,_,y⟩=>Sat.mono s2 y
theorem Holds.drop_all {w:World} {g:Gr} {η:List SProp} (h:Holds w g η):Holds w g []:=h.imp fun _ _=>trivial
theorem Holds.freeze {w:World} {g:Gr} {η:List SProp} {A:SProp} (h:Holds w g (A::η)) :
  ∃ k:Fr,A k∧g.h.disj k∧Holds w (g.add k) η:=by
 obtain ⟨a,b,c,k,hd,s1,s2,k1,k2,kd,t1,t2,x,y⟩:=h;refine ⟨k1,x,Fr.disj_sub hd (Fr.sub_refl _) t1,a,b,c,k2,?_,Fr.add_sub s1 (Fr.sub_trans t1 s2),Fr.sub_trans t2 s2,y⟩;exact Fr.disj_add (Fr.disj_sub hd (Fr.sub_refl _) t2) kd
theorem Holds.thaw {w:World} {g:Gr} {η:List SProp} {A:SProp} {k:Fr} (h:Holds w (g.add k) η) (x:A k) (hd:g.h.disj k) :
  Holds w g (A::η):=by
 obtain ⟨a,b,c,m,md,s1,s2,y⟩:=h;have d1:k.disj m:=Fr.disj_sub md (Fr.sub_add_right hd) (Fr.sub_refl _);have d2:g.h.disj m:=Fr.disj_sub md (Fr.sub_add_left _ _) (Fr.sub_refl _);exact ⟨a,b,c,k.add m,Fr.disj_add_right hd d2,Fr.sub_trans (Fr.sub_add_left _ _) s1,
  Fr.add_sub (Fr.sub_trans (Fr.sub_add_right hd) s1) s2,Sat.cons d1 x y⟩
theorem Holds.freezeAll {w:World} {g:Gr} {η ζ:List SProp} (h:Holds w g (η++ζ)) :
  ∃ k:Fr,Sat ζ k∧g.h.disj k∧Holds w (g.add k) η:=by
 obtain ⟨a,b,c,k,hd,s1,s2,y⟩:=h;obtain ⟨k1,k2,kd,t1,t2,p,q⟩:=Sat.split y;refine ⟨k2,q,Fr.disj_sub hd (Fr.sub_refl _) t2,a,b,c,k1,?_,Fr.add_sub s1 (Fr.sub_trans t2 s2),Fr.sub_trans t1 s2,p⟩;exact Fr.disj_add (Fr.disj_sub hd (Fr.sub_refl _) t1) (Fr.disj_symm kd)
theorem Holds.thawAll {w:World} {g:Gr} {η ζ:List SProp} {k:Fr} (h:Holds w (g.add k) η) (x:Sat ζ k) (hd:g.h.disj k):Holds w g (η++ζ):=by
 obtain ⟨a,b,c,m,md,s1,s2,y⟩:=h;have d1:k.disj m:=Fr.disj_sub md (Fr.sub_add_right hd) (Fr.sub_refl _);have d2:g.h.disj m:=Fr.disj_sub md (Fr.sub_add_left _ _) (Fr.sub_refl _);refine ⟨a,b,c,m.add k,Fr.disj_add_right d2 hd,Fr.sub_trans (Fr.sub_add_left _ _) s1,Fr.add_sub s2 (Fr.sub_trans (Fr.sub_add_right hd) s1),Sat.append (Fr.disj_symm d1) y x⟩
def blk (b:Nat) (o:Obj):SProp:=fun h=>h b=some o
theorem Holds.ground {w:World} {g:Gr} {η:List SProp} (h:Holds w g η):g.h.sub w.fr:=h.2.2.2.elim fun _ x=>x.2.1
theorem Holds.block {w:World} {g:Gr} {η:List SProp} {b:Nat} {o:Obj} (h:Holds w g (blk b o::η)):w.heap[b]?=some o:=by
 obtain ⟨_,_,_,k,_,_,s2,k1,_,_,t1,_,x,_⟩:=h;exact s2 b o (t1 b o x)
theorem Holds.drewN {w:World} {g:Gr} {η:List SProp} (h:Holds w g η) (n:Nat) (hn:w.drawn≤n):Holds { w with drawn:=n } g η:=⟨h.1,h.2.1,⟨h.2.2.1.1,Nat.le_trans h.2.2.1.2 hn⟩,h.2.2.2⟩
theorem Holds.alloc {w:World} {g:Gr} {η:List SProp} (h:Holds w g η) (o:Obj):Holds (w.alloc o) g (blk w.heap.size o::η):=by
 obtain ⟨a,b,c,k,hd,s1,s2,y⟩:=h;have hlt:∀ {f:Fr} {x:Obj},f.sub w.fr→f w.heap.size=some x→False:=fun hs hx=>by
  have:=hs _ _ hx
  simp [World.fr] at this
 have hn:∀ {f:Fr},f.sub w.fr→f w.heap.size=none:=fun {f} hs=>by
  cases hx:f w.heap.size with
  |none=>rfl
  |some x=>exact (hlt hs hx).elim
 have up:w.fr.sub (w.alloc o).fr:=fun i x hx=>by
  show (w.heap.push o)[i]?=some x
  have hx:w.heap[i]?=some x:=hx;have:i<w.heap.size:=by
   rcases Nat.lt_or_ge i w.heap.size with q|q
   ·exact q
   ·simp [Array.getElem?_eq_none q] at hx
  rw [Array.getElem?_push_lt this];rw [Array.getElem?_eq_getElem this] at hx;exact hx
 have dn:∀ {f:Fr},f.sub w.fr→f.disj (Fr.one w.heap.size o):=fun {f} hs i=>by
  by_cases hi:i=w.heap.size
  ·left;rw [hi];exact hn hs
  ·right;simp [Fr.one,hi]
 refine ⟨a,b,c,(Fr.one w.heap.size o).add k,Fr.disj_add_right (dn s1) hd,Fr.sub_trans s1 up,Fr.add_sub ?_ (Fr.sub_trans s2 up),Sat.cons (Fr.disj_symm (dn s2)) ?_ y⟩
 ·intro i x hx
  simp only [Fr.one] at hx
  split at hx
  ·rename_i hi;subst hi;cases hx;show (w.heap.push o)[w.heap.size]?=some o;simp
  ·cases hx
 ·simp [blk,Fr.one]
theorem Holds.setBlock {w w' :World} {g:Gr} {η:List SProp} {b:Nat} {o o' :Obj} (h:Holds w g (blk b o::η))
  (hb:w'.heap[b]?=some o') (hne:∀ i,i≠b→w'.heap[i]?=w.heap[i]?) (h1:w'.os=w.os) (h2:w'.tape=w.tape) (h3:w'.output=w.output) (h4:w.drawn≤w'.drawn:=by exact Nat.le_refl _) :
  Holds w' g (blk b o' ::η):=by
 obtain ⟨p,q,r,k,hd,s1,s2,k1,k2,kd,t1,t2,x,y⟩:=h;have x' :k1 b=some o:=x;have gb:g.h b=none:=by
  rcases hd b with z|z
  ·exact z
  ·rw [t1 b o x'] at z;cases z
 have kb:k2 b=none:=by
  rcases kd b with z|z
  ·rw [x'] at z;cases z
  ·exact z
 have keep:∀ {f:Fr},f b=none→f.sub w.fr→f.sub w'.fr:=fun {f} hf hs i z hz=>by
  have:i≠b:=by rintro rfl;rw [hf] at hz;cases hz
  show w'.heap[i]?=_
  rw [hne i this];exact hs i z hz
 have od:∀ {f:Fr},f b=none→f.disj (Fr.one b o'):=fun {f} hf i=>by
  by_cases hi:i=b
  ·left;rw [hi];exact hf
  ·right;simp [Fr.one,hi]
 refine ⟨h1.trans p,h2.trans q,⟨h3.trans r.1,Nat.le_trans r.2 h4⟩,(Fr.one b o').add k2,Fr.disj_add_right (od gb) (Fr.disj_sub hd (Fr.sub_refl _) t2),keep gb s1,Fr.add_sub ?_ (keep kb (Fr.sub_trans t2 s2)),
  Sat.cons (Fr.disj_symm (od kb)) ?_ y⟩
 ·intro i z hz
  simp only [Fr.one] at hz
  split at hz
  ·rename_i hi;subst hi;cases hz;exact hb
  ·cases hz
 ·simp [blk,Fr.one]
theorem Holds.of_world (w:World):Holds w w.gr []:=⟨rfl,rfl,⟨rfl,Nat.le_refl _⟩,Fr.emp,Fr.disj_symm (Fr.emp_disj _),Fr.sub_refl _,Fr.emp_sub _,trivial⟩
theorem Holds.below {w w' :World} (h:Holds w' w.gr []):RowKit.Below w.heap.size w w' :=by
 obtain ⟨a,b,⟨c,_⟩,_,_,s1,_,_⟩:=h;have hb:∀ i,i<w.heap.size→w'.heap[i]?=w.heap[i]?:=fun i hi=>by
  have:=s1 i w.heap[i] (by simp [World.gr,World.fr,hi]);rw [Array.getElem?_eq_getElem hi];exact this
 refine ⟨a,b,c,?_,hb⟩
 rcases Nat.eq_zero_or_pos w.heap.size with hz|hz
 ·omega
 ·rcases Nat.lt_or_ge (w.heap.size - 1) w'.heap.size with q|q
  ·omega
  ·have:=hb (w.heap.size - 1) (by omega)
   rw [Array.getElem?_eq_none q,Array.getElem?_eq_getElem (by omega)] at this
   cases this
theorem zh {A:SProp} {η:List SProp}:Sel (A::η) A η:=.here
theorem zt {A B:SProp} {η ζ:List SProp} (h:Sel η A ζ):Sel (B::η) A (B::ζ):=.there h
theorem zx1 {α:Type} {a:α} {as bs:List α}:a::as++bs=a::(as++bs):=rfl
theorem zx2 {α:Type} {as:List α}:[]++as=as:=rfl
theorem zx3 {α:Type} {as:List α}:as++[]=as:=List.append_nil as
end Go.Sp
end
section
/- Texts of this proof. -/
namespace Go.Sp
def Wd (ro:Option Nat):Fence:={ fn:=fun _=>True,depth:=none,alive:=false,round:=ro }
theorem room_wd (ro:Option Nat) (n:Nat):(Wd ro).room n:=fun _ h=>by cases h
def Runs (ro:Option Nat) (P:Program) (todo:List Item) (Q:Exit→Act→World→Prop) (a:Act) (w:World):Prop :=
 ∀ (b:Frame) (cs:List Frame),b.roundOf=ro→(∃ fn,P.funcs[b.fn]?=some fn)→∃ e a' w',Q e a' w' ∧ArrivesIn (Machine.fenced P Fence.wide) P (lone (b.atR a todo) cs w) b [] cs e a' w'
section runs
variable {ro:Option Nat} {P:Program} {Q:Exit→Act→World→Prop} {a:Act} {w:World} {k:List Item}
theorem Runs.step {todo todo' :List Item} {a' :Act} {w' :World} (hs:∀ (b:Frame) (cs:List Frame),step P (lone (b.atR a todo) cs w)=.next (lone (b.atR a' todo') cs w'))
  (h:Runs ro P todo' Q a' w'):Runs ro P todo Q a w:=fun b cs hb hf =>
 let ⟨e,a',w',q,r⟩:=h b cs hb hf;⟨e,a',w',q,.of_steps (.one (fenced_wide P _) (hs b cs)) r⟩
theorem Runs.nil (h:Q .normal a w):Runs ro P [] Q a w:=fun _ _ _ _=>⟨.normal,a,w,h,StepsIn.refl _⟩
theorem Runs.ret (h:Q .ret a w):Runs ro P (.code .ret::k) Q a w:=fun _ _ _ _=>⟨.ret,a,w,h,fun hb=>⟨_,.one (fenced_wide P _) (stepR_ret hb)⟩,fun _=>⟨k,StepsIn.refl _⟩⟩
def QK (ro:Option Nat) (P:Program) (k:List Item) (Q:Exit→Act→World→Prop):Exit→Act→World→Prop
 |.normal,a,w=>Runs ro P k Q a w
 |.panic ch,a,w=>Q (.panic ch) a w
 |.outgrown,a,w=>Q .outgrown a w
 |_,_,_=>False
theorem Runs.ops {ops:Array Oper} {l:List Nat} (h:wpOpsIn (Wd ro) 0 P ops (QK ro P k Q) l a w):Runs ro P (.inRegion ops l::k) Q a w:=by
 intro b cs hb hf
 obtain ⟨e,a',w',hq,harr⟩:=wp_opsIn l a w h b k cs hb trivial (room_wd _ _);have harr:ArrivesIn (Machine.fenced P Fence.wide) P (lone (b.atR a (.inRegion ops l::k)) cs w) b k cs e a' w' :=harr
 cases e with
 |normal =>
  obtain ⟨e,a'',w'',q,r⟩:=hq b cs hb hf;exact ⟨e,a'',w'',q,.of_steps harr r⟩
 |panic ch=>exact ⟨_,a',w',hq,harr⟩
 |outgrown=>exact ⟨.outgrown,a',w',hq,harr⟩
 |exit _=>exact hq.elim
 |goto _=>exact hq.elim
 |ret=>exact hq.elim
theorem Runs.opsN {ops:Array Oper} {l:List Nat} (h:wpOps P ops (QK none P k Q) l a w):Runs none P (.inRegion ops l::k) Q a w:=by
 intro b cs hb hf
 obtain ⟨e,a',w',hq,harr⟩:=wp_ops l a w h b k cs;have harr:=(arrivesIn_iff (I:=Machine.fenced P Fence.wide) (fun _ _=>stepsIn_wide) hb).2 harr;rw [← Frame.atR_of_none hb] at harr
 cases e with
 |normal =>
  obtain ⟨e,a'',w'',q,r⟩:=hq b cs hb hf;exact ⟨e,a'',w'',q,.of_steps harr r⟩
 |panic ch=>exact ⟨_,a',w',hq,harr⟩
 |outgrown=>exact ⟨.outgrown,a',w',hq,harr⟩
 |exit _=>exact hq.elim
 |goto _=>exact hq.elim
 |ret=>exact hq.elim
def Lv (P:Program) (fn:Func) (tmps:Array Value) (R:Ending→World→Prop):List Deferred→FrameMode→World→Prop
 |[],u,w=>Leaves P fn tmps R [] u w
 |d::ds,u,w=>u≠.run∧((∃ r w',d.target=.collected r∧(Instr.takeDeferred r).run P w=.ok [] w' ∧Lv P fn tmps R ds u w') ∨
   ∃ fv cap f args,d.target=.fn fv cap∧(invoke d.target d.args).run P w=.ok (.enter f args) w ∧
   CallsD P f args u w fun
    |.returned _,u',w' =>Lv P fn tmps R ds (settle u') w'
    |.panicked chain,u',w' =>Lv P fn tmps R ds (raised u' chain) w'
    |.outgrown,_,w' =>R .outgrown w')
theorem Lv.of {fn:Func} {tmps:Array Value} {R:Ending→World→Prop}:∀ {ds:List Deferred} {u:FrameMode} {w:World},Leaves P fn tmps R ds u w→Lv P fn tmps R ds u w
 |[],_,_,h=>h
 |d::ds,u,w,h=>by
  obtain ⟨h1,fv,cap,f,args,h2,h3,h4⟩:=h;refine ⟨h1,.inr ⟨fv,cap,f,args,h2,h3,h4.mono fun e u' w' hR=>?_⟩⟩
  cases e with
  |returned v=>exact Lv.of hR
  |panicked ch=>exact Lv.of hR
  |outgrown=>exact hR
theorem lv_steps {fn:Func} {tmps:Array Value} {R:Ending→World→Prop}:∀ (ds:List Deferred) (u:FrameMode) (w:World) (fr:Frame)
  (cs:List Frame),fr.mode=u→fr.defers=ds→fr.tmps=tmps→P.funcs[fr.fn]?=some fn→fr.kind=.normal→Lv P fn tmps R ds u w →
  ∃ e w' fr',R e w' ∧Comes P (lone fr cs w) (lone fr' cs w') e∧fr'.fn=fr.fn∧fr'.leaving P w' e:=by
 intro ds
 induction ds with
 |nil=>exact fun u w fr cs hu hd ht hf hk h=>leaves_steps [] u w fr cs hu hd ht hf hk h
 |cons d ds ih =>
  intro u w fr cs hu hd ht hf hk h
  obtain ⟨hrun,h⟩:=h
  rcases h with ⟨r,w',htar,htake,hrest⟩|⟨fv,cap,f,args,htar,hinv,hcall⟩
  ·have h1:=step_collected (cs:=cs) (hu ▸ hrun) hd htar htake
   obtain ⟨e',w'',fr',hR',hs',hfn',hl'⟩:=ih u w' { fr with defers:=[]++ds } cs hu rfl ht hf hk hrest;exact ⟨e',w'',fr',hR',Comes.of_steps (.one h1) hs',hfn',hl'⟩
  ·have h1:=step_defer (cs:=cs) (hu ▸ hrun) hd htar hinv
   obtain ⟨e,u',w',frX,hR,hsteps,hkX,hgo⟩:=hcall { fr with defers:=ds } cs hu
   cases e with
   |returned v =>
    have h2:=step_going_returned (c:={ { fr with defers:=ds } with mode:=u' }) (cs:=cs) hkX hgo;obtain ⟨e',w'',fr',hR',hs',hfn',hl'⟩:=ih (settle u') w' { { { fr with defers:=ds } with mode:=u' } with mode:=settle u' } cs rfl rfl ht hf hk hR;exact ⟨e',w'',fr',hR',Comes.of_steps (.head h1 (Steps.trans hsteps (.one h2))) hs',hfn',hl'⟩
   |panicked chain =>
    have h2:=step_going_panicked (c:={ { fr with defers:=ds } with mode:=u' }) (cs:=cs) hgo;obtain ⟨e',w'',fr',hR',hs',hfn',hl'⟩:=ih (raised u' chain) w' { { { fr with defers:=ds } with mode:=u' } with mode:=raised u' chain } cs rfl rfl ht hf hk hR;exact ⟨e',w'',fr',hR',Comes.of_steps (.head h1 (Steps.trans hsteps (.one h2))) hs',hfn',hl'⟩
   |outgrown=>exact ⟨.outgrown,w',fr,hR,Outgrown.of_steps (.one h1) hsteps,rfl,trivial⟩
def Post (ro:Option Nat) (P:Program) (fn:Func) (R:Ending→World→Prop):Exit→Act→World→Prop
 |.normal,a,w=>match ro with|none=>Lv P fn a.tmps R a.defers .returning w|some l=>∃ v w',(Instr.endRound l none).run P w=.ok v w' ∧R (.returned v) w'
 |.ret,a,w=>match ro with|none=>Lv P fn a.tmps R a.defers .returning w|some l=>∃ v w',(Instr.endRound l (some .ret)).run P w=.ok v w' ∧R (.returned v) w'
 |.exit id,_,w=>match ro with|none=>False|some l=>∃ v w',(Instr.endRound l (some (.exit id))).run P w=.ok v w' ∧R (.returned v) w'
 |.goto _,_,_=>False
 |.panic ch,a,w=>match ro with|none=>Lv P fn a.tmps R a.defers (.panicking ch) w|some _=>a.defers=[]∧R (.panicked ch) w
 |.outgrown,_,w=>R .outgrown w
theorem Post.panic {fn:Func} {R:Ending→World→Prop} {ch:List PanicEntry} (hd:a.defers=[]) (h:R (.panicked ch) w):Post ro P fn R (.panic ch) a w:=by
 cases ro with
 |none=>show Lv P fn a.tmps R a.defers (.panicking ch) w;rw [hd];exact h
 |some l=>exact ⟨hd,h⟩
theorem calls_of_runs {f:FuncId} {fn:Func} {c:Code} {args:Array Value} {R:Ending→World→Prop}
  (hf:P.funcs[f]?=some fn) (hb:fn.body=some c)
  (h:Runs none P [.code c] (Post none P fn R) { tmps:=args++Array.replicate (fn.ntmps - args.size) undef,defers:=[] } w):Calls P f args w R:=by
 intro cs
 let b:Frame:={ (default:Frame) with fn:=f,kind:=.normal,roundOf:=none }
 have henter:Frame.enter P f args .normal =
   b.atR { tmps:=args++Array.replicate (fn.ntmps - args.size) undef,defers:=[] } [.code c]:=by
  simp [Frame.enter,Frame.atR,hf,hb,b]
 obtain ⟨e,a',w',hq,harr⟩:=h b cs rfl ⟨fn,hf⟩;rw [← henter] at harr
 cases e with
 |normal =>
  obtain ⟨e',w'',fr',hR,hs,hfn,hl⟩:=lv_steps a'.defers .returning w' { b.atR a' [] with mode:=.returning } cs rfl rfl rfl hf rfl hq;exact ⟨e',w'',fr',hR,Comes.of_steps (Steps.trans (StepsIn.steps harr) (.one (stepR_end rfl))) hs,hfn,hl⟩
 |ret =>
  obtain ⟨todo,hs₀⟩:=harr.1 rfl;obtain ⟨e',w'',fr',hR,hs,hfn,hl⟩:=lv_steps a'.defers .returning w' { b.atR a' todo with mode:=.returning } cs rfl rfl rfl hf rfl hq;exact ⟨e',w'',fr',hR,Comes.of_steps hs₀.steps hs,hfn,hl⟩
 |panic chain =>
  obtain ⟨todo,hs₀⟩:=harr;obtain ⟨e',w'',fr',hR,hs,hfn,hl⟩:=lv_steps a'.defers (.panicking chain) w' { b.atR a' todo with mode:=.panicking chain } cs rfl rfl rfl hf rfl hq;exact ⟨e',w'',fr',hR,Comes.of_steps hs₀.steps hs,hfn,hl⟩
 |exit id=>exact hq.elim
 |goto l=>exact hq.elim
 |outgrown=>exact ⟨.outgrown,w',b,hq,harr.resolve_left (by simp [b]),rfl,trivial⟩
end runs
def look:List (Nat × Value)→Nat→Option Value
 |[],_=>none
 |(s,v)::σ,t=>match Nat.beq s t with|true=>some v|false=>look σ t
def ev (σ:List (Nat × Value)):Operand→Option Value
 |.tmp t=>look σ t
 |.const v=>some v
 |.global g=>some (.pointer (some ⟨g,0,none⟩))
 |.func f=>some (.func (.func f) #[] #[])
def Sub (σ' σ:List (Nat × Value)):Prop:=∀ t v,look σ' t=some v→look σ t=some v
theorem Sub.nil {σ:List (Nat × Value)}:Sub [] σ:=fun _ _ h=>by cases h
theorem Sub.refl {σ:List (Nat × Value)}:Sub σ σ:=fun _ _ h=>h
theorem Sub.cons {σ σ' :List (Nat × Value)} {t:Nat} {v:Value} (h:look σ t=some v) (hs:Sub σ' σ):Sub ((t,v)::σ') σ:=fun s u hu=>by
 simp only [look] at hu
 split at hu
 ·rename_i hb;cases hu;rw [← Nat.eq_of_beq_eq_true hb];exact h
 ·exact hs s u hu
def Fits (a:Act) (n:Nat) (σ:List (Nat × Value)):Prop:=a.tmps.size=n∧∀ t v,look σ t=some v→a.tmps[t]?=some v
theorem Fits.sub {a:Act} {n:Nat} {σ σ' :List (Nat × Value)} (h:Fits a n σ) (hs:Sub σ' σ):Fits a n σ' :=⟨h.1,fun t v x=>h.2 t v (hs t v x)⟩
theorem Fits.eval {a:Act} {n:Nat} {σ:List (Nat × Value)} (h:Fits a n σ) {x:Operand} {v:Value} (hx:ev σ x=some v):a.eval x=v:=by
 cases x with
 |tmp t=>have:=h.2 t v hx;simp only [Act.eval,Array.getD_eq_getD_getElem?,this,Option.getD_some]
 |const u=>simpa [ev,Act.eval] using hx
 |global g=>simpa [ev,Act.eval] using hx
 |func f=>simpa [ev,Act.eval] using hx
theorem Fits.put {a:Act} {n d:Nat} {σ:List (Nat × Value)} {v:Value} (h:Fits a n σ) (hd:Nat.blt d n=true):Fits (a.put (some d) v) n ((d,v)::σ):=by
 have hd' :d<a.tmps.size:=by rw [h.1];exact of_decide_eq_true (by simpa [Nat.blt_eq] using hd)
 refine ⟨by simp [Act.put,h.1],fun t u hu=>?_⟩;simp only [look] at hu
 split at hu
 ·rename_i hb;cases hu;have:=Nat.eq_of_beq_eq_true hb;subst this
  simp [Act.put,Array.getElem?_setIfInBounds_self_of_lt hd']
 ·rename_i hb
  have hne:d≠t:=by rintro rfl;simp at hb
  have:=h.2 t u hu;simp only [Act.put,Array.getElem?_setIfInBounds_ne hne,this]
def Knows (σ:List (Nat × Value)) (ρ:Operand→Value):Prop:=∀ x v,ev σ x=some v→ρ x=v
theorem Fits.knows {a:Act} {n:Nat} {σ:List (Nat × Value)} (h:Fits a n σ):Knows σ a.eval:=fun _ _ hx=>h.eval hx
def Does (P:Program) (op:Op) (σ:List (Nat × Value)) (g:Gr) (η:List SProp) (v:Value) (η' :List SProp):Prop :=
 ∀ (o:Oper) (ρ:Operand→Value) (w:World),o.op=op→Knows σ ρ→Holds w g η→∃ w',(execOp ρ o).run P w=.ok (.value v) w' ∧Holds w' g η'
def DoesU (P:Program) (op:Op) (σ:List (Nat × Value)) (g:Gr) (η:List SProp) (η' :List SProp):Prop :=
 ∀ (o:Oper) (ρ:Operand→Value) (w:World),o.op=op→Knows σ ρ→Holds w g η→∃ w',(execOp ρ o).run P w=.ok .skip w' ∧Holds w' g η'
def DoesV (P:Program) (op:Op) (σ:List (Nat × Value)) (g:Gr) (η:List SProp) (η' :List SProp):Prop :=
 ∀ (o:Oper) (ρ:Operand→Value) (w:World),o.op=op→Knows σ ρ→Holds w g η→∃ w' u,(execOp ρ o).run P w=.ok u w' ∧(u=.skip∨∃ v,u=.value v)∧Holds w' g η'
theorem DoesU.v {P:Program} {op:Op} {σ:List (Nat × Value)} {g:Gr} {η η' :List SProp} (h:DoesU P op σ g η η'):DoesV P op σ g η η' :=fun o ρ w h1 h2 h3=>let ⟨w',a,b⟩:=h o ρ w h1 h2 h3;⟨w',.skip,a,.inl rfl,b⟩
def S (ro:Option Nat) (P:Program) (fn:Func) (n:Nat) (R:Ending→World→Prop) (todo:List Item) (σ:List (Nat × Value)) (D:List Deferred) (g:Gr) (η:List SProp):Prop :=
 ∀ a w,Fits a n σ→a.defers=D→Holds w g η→Runs ro P todo (Post ro P fn R) a w
def O (ro:Option Nat) (P:Program) (fn:Func) (n:Nat) (R:Ending→World→Prop) (ops:Array Oper) (l:List Nat) (k:List Item) (σ:List (Nat × Value)) (D:List Deferred) (g:Gr) (η:List SProp):Prop :=
 ∀ a w,Fits a n σ→a.defers=D→Holds w g η→wpOpsIn (Wd ro) 0 P ops (QK ro P k (Post ro P fn R)) l a w
section rules
variable {ro:Option Nat} {P:Program} {fn:Func} {n:Nat} {R:Ending→World→Prop} {k:List Item} {σ σ' :List (Nat × Value)} {D:List Deferred} {g:Gr} {η η' :List SProp}
theorem S.weaken {todo:List Item} (hs:Sub σ' σ) (h:S ro P fn n R todo σ' D g η):S ro P fn n R todo σ D g η:=fun a w hf hd hw=>h a w (hf.sub hs) hd hw
theorem S.perm {todo:List Item} (p:η.Perm η') (h:S ro P fn n R todo σ D g η'):S ro P fn n R todo σ D g η:=fun a w hf hd hw=>h a w hf hd (hw.perm p)
theorem S.sel {todo:List Item} {A:SProp} {ζ:List SProp} (s:Sel η A ζ) (h:S ro P fn n R todo σ D g (A::ζ)):S ro P fn n R todo σ D g η:=S.perm s.perm h
theorem S.drop {todo:List Item} {A:SProp} (h:S ro P fn n R todo σ D g η):S ro P fn n R todo σ D g (A::η):=fun a w hf hd hw=>h a w hf hd hw.drop
theorem S.imp {todo:List Item} (hs:∀ k,Sat η k→Sat η' k) (h:S ro P fn n R todo σ D g η'):S ro P fn n R todo σ D g η:=fun a w hf hd hw=>h a w hf hd (hw.imp hs)
theorem S.entail {todo:List Item} {A:SProp} {ζ:List SProp} (hs:∀ k,A k→Sat ζ k) (h:S ro P fn n R todo σ D g (ζ++η)):S ro P fn n R todo σ D g (A::η) :=
 fun a w hf hd hw=>h a w hf hd (hw.entail hs)
theorem S.exi {todo:List Item} {α:Type} {A:α→SProp} (h:∀ x,S ro P fn n R todo σ D g (A x::η)):S ro P fn n R todo σ D g ((fun k=>∃ x,A x k)::η) :=
 fun a w hf hd hw=>by
  obtain ⟨p,q,r,k,d,s1,s2,k1,k2,kd,t1,t2,⟨x,hx⟩,y⟩:=hw;exact h x a w hf hd ⟨p,q,r,k,d,s1,s2,k1,k2,kd,t1,t2,hx,y⟩
theorem S.freeze {todo:List Item} {A:SProp} (h:∀ k:Fr,A k→g.h.disj k→S ro P fn n R todo σ D (g.add k) η):S ro P fn n R todo σ D g (A::η) :=
 fun a w hf hd hw=>by
  obtain ⟨k,hk,hdj,hw'⟩:=hw.freeze;exact h k hk hdj a w hf hd hw'
theorem S.thaw {todo:List Item} {A:SProp} {k:Fr} (hk:A k) (hdj:g.h.disj k) (h:S ro P fn n R todo σ D g (A::η)):S ro P fn n R todo σ D (g.add k) η :=
 fun a w hf hd hw=>h a w hf hd (hw.thaw hk hdj)
theorem S.seq {x y:Code} (h:S ro P fn n R (.code x::.code y::k) σ D g η):S ro P fn n R (.code (.seq x y)::k) σ D g η :=
 fun a w hf hd hw=>.step (fun _ _=>stepR_seq) (h a w hf hd hw)
theorem S.skip (h:S ro P fn n R k σ D g η):S ro P fn n R (.code .skip::k) σ D g η:=fun a w hf hd hw=>.step (fun _ _=>stepR_skip) (h a w hf hd hw)
theorem S.inBlock {id:Nat} (h:S ro P fn n R k σ D g η):S ro P fn n R (.inBlock id::k) σ D g η:=fun a w hf hd hw=>.step (fun _ _=>stepR_inBlock) (h a w hf hd hw)
theorem S.block {id:Nat} {c:Code} (h:S ro P fn n R (.code c::.inBlock id::k) σ D g η):S ro P fn n R (.code (.block id c)::k) σ D g η :=
 fun a w hf hd hw=>.step (fun _ _=>stepR_block) (h a w hf hd hw)
theorem S.exit {id:Nat} {k' :List Item} (hk:exitTo id k=some k') (h:S ro P fn n R k' σ D g η):S ro P fn n R (.code (.exit id)::k) σ D g η :=
 fun a w hf hd hw=>.step (fun _ _=>stepR_exit hk) (h a w hf hd hw)
theorem S.condT {c:Operand} {x y:Code} (hc:ev σ c=some (.bool true)) (h:S ro P fn n R (.code x::k) σ D g η):S ro P fn n R (.code (.cond c x y)::k) σ D g η :=
 fun a w hf hd hw=>.step (fun _ _=>stepR_cond (hf.eval hc)) (h a w hf hd hw)
theorem S.condF {c:Operand} {x y:Code} (hc:ev σ c=some (.bool false)) (h:S ro P fn n R (.code y::k) σ D g η):S ro P fn n R (.code (.cond c x y)::k) σ D g η :=
 fun a w hf hd hw=>.step (fun _ _=>stepR_cond (hf.eval hc)) (h a w hf hd hw)
theorem S.condB {c:Operand} {x y:Code} {b:Bool} (hc:ev σ c=some (.bool b)) (ht:b=true→S ro P fn n R (.code x::k) σ D g η) (hf:b=false→S ro P fn n R (.code y::k) σ D g η) :
  S ro P fn n R (.code (.cond c x y)::k) σ D g η:=by
 cases b
 ·exact S.condF hc (hf rfl)
 ·exact S.condT hc (ht rfl)
theorem S.condD {c:Operand} {x y:Code} {p:Prop} [Decidable p] (hc:ev σ c=some (.bool (decide p))) (ht:p→S ro P fn n R (.code x::k) σ D g η) (hf:¬p→S ro P fn n R (.code y::k) σ D g η) :
  S ro P fn n R (.code (.cond c x y)::k) σ D g η :=
 S.condB hc (fun h=>ht (of_decide_eq_true h)) (fun h=>hf (of_decide_eq_false h))
theorem S.loop {ι:Type} {c:Code} (φ:ι→Prop) (σs:ι→List (Nat × Value)) (ηs:ι→List SProp) (μ:ι→Nat) (x₀:ι) (h₀:φ x₀) (hσ:Sub (σs x₀) σ) (hη:η=ηs x₀)
  (round:∀ x,φ x→(∀ y,φ y→μ y<μ x→S ro P fn n R (.inLoop c::k) (σs y) D g (ηs y))→S ro P fn n R (.code c::.inLoop c::k) (σs x) D g (ηs x)) :
  S ro P fn n R (.code (.loop c)::k) σ D g η:=by
 have key:∀ m x,μ x=m→φ x→S ro P fn n R (.code c::.inLoop c::k) (σs x) D g (ηs x):=by
  intro m
  induction m using Nat.strongRecOn with
  |_ m ih =>
   intro x hm hx
   refine round x hx fun y hy hlt a w hf hd hw=>.step (fun _ _=>stepR_inLoop) (ih (μ y) (hm ▸ hlt) y rfl hy a w hf hd hw)
 subst hη;exact fun a w hf hd hw=>.step (fun _ _=>stepR_loop) (key _ x₀ rfl h₀ a w (hf.sub hσ) hd hw)
theorem S.region {id:Nat} {ops:Array Oper} {l:List Nat} (hl:List.range ops.size=l) (h:O ro P fn n R ops l k σ D g η):S ro P fn n R (.code (.region id ops false)::k) σ D g η :=
 fun a w hf hd hw=>.step (fun _ _=>stepR_region) (.ops (hl ▸ h a w hf hd hw))
theorem O.nil {ops:Array Oper} (h:S ro P fn n R k σ D g η):O ro P fn n R ops [] k σ D g η:=fun a w hf hd hw=>h a w hf hd hw
theorem O.weaken {ops:Array Oper} {l:List Nat} (hs:Sub σ' σ) (h:O ro P fn n R ops l k σ' D g η):O ro P fn n R ops l k σ D g η:=fun a w hf hd hw=>h a w (hf.sub hs) hd hw
def opAt (ops:Array Oper) (i n:Nat):Option (Nat × Op) :=
 match ops[i]? with
 |some ⟨some d,op,_,_,_,none⟩=>match Nat.blt d n with|true=>some (d,op)|false=>none
 |_=>none
def opAtU (ops:Array Oper) (i:Nat):Option Op :=
 match ops[i]? with
 |some ⟨none,op,_,_,_,none⟩=>some op
 |_=>none
def opAtG (ops:Array Oper) (i n:Nat):Option (Nat × Op × Nat × Bool) :=
 match ops[i]? with
 |some ⟨some d,op,_,_,_,some (j,want)⟩ =>
  match Nat.blt d n,ops[j]? with
  |true,some o=>match o.dst with|some t=>some (d,op,t,want)|none=>none
  |_,_=>none
 |_=>none
theorem opAt_spec {ops:Array Oper} {i n d:Nat} {op:Op} (h:opAt ops i n=some (d,op)) :
  ∃ o,ops[i]?=some o∧o.dst=some d∧o.op=op∧o.guard=none∧Nat.blt d n=true:=by
 unfold opAt at h
 split at h
 ·rename_i d' op' _ _ _ ho
  split at h
  ·rename_i hb;cases h;exact ⟨_,ho,rfl,rfl,rfl,hb⟩
  ·cases h
 ·cases h
theorem opAtU_spec {ops:Array Oper} {i:Nat} {op:Op} (h:opAtU ops i=some op):∃ o,ops[i]?=some o∧o.dst=none∧o.op=op∧o.guard=none:=by
 unfold opAtU at h
 split at h
 ·rename_i op' _ _ _ ho;cases h;exact ⟨_,ho,rfl,rfl,rfl⟩
 ·cases h
theorem opAtG_spec {ops:Array Oper} {i n d t:Nat} {op:Op} {want:Bool} (h:opAtG ops i n=some (d,op,t,want)) :
  ∃ o j oj,ops[i]?=some o∧o.dst=some d∧o.op=op∧o.guard=some (j,want)∧ops[j]?=some oj∧oj.dst=some t∧Nat.blt d n=true:=by
 unfold opAtG at h
 split at h
 ·rename_i d' op' _ _ _ j want' ho
  split at h
  ·rename_i oj hb hj
   split at h
   ·rename_i t' ht;cases h;exact ⟨_,_,_,ho,rfl,rfl,rfl,hj,ht,hb⟩
   ·cases h
  ·cases h
 ·cases h
theorem yielded_of {ops:Array Oper} {a:Act} {σ:List (Nat × Value)} {n j t:Nat} {oj:Oper} {b:Bool} (hf:Fits a n σ) (hj:ops[j]?=some oj) (ht:oj.dst=some t) (hl:look σ t=some (.bool b)) :
  yielded ops a.tmps j=some b:=by
 simp [yielded,hj,ht,hf.2 t _ hl]
inductive Fires (ops:Array Oper) (i n:Nat) (σ:List (Nat × Value)):Nat→Op→Prop
 |p {d:Nat} {op:Op} (h:opAt ops i n=some (d,op)):Fires ops i n σ d op
 |g {d t:Nat} {op:Op} {b:Bool} (h:opAtG ops i n=some (d,op,t,b)) (hl:look σ t=some (.bool b)):Fires ops i n σ d op
theorem Fires.spec {ops:Array Oper} {i n d:Nat} {σ:List (Nat × Value)} {op:Op} (h:Fires ops i n σ d op) :
  ∃ o,ops[i]?=some o∧o.dst=some d∧o.op=op∧(∀ a,Fits a n σ→Region.wanted o (yielded ops a.tmps)=true)∧Nat.blt d n=true:=by
 cases h with
 |p h =>
  obtain ⟨o,a,b,c,d,e⟩:=opAt_spec h;exact ⟨o,a,b,c,fun _ _=>by simp [Region.wanted,d],e⟩
 |g h hl =>
  obtain ⟨o,j,oj,hi,hdst,hop,hg,hj,ht,hb⟩:=opAtG_spec h;exact ⟨o,hi,hdst,hop,fun a hf=>by simp [Region.wanted,hg,yielded_of hf hj ht hl],hb⟩
theorem notDefer_value {P:Program} {o:Oper} {ρ:Operand→Value} {w w' :World} {v:Value} (h:(execOp ρ o).run P w=.ok (.value v) w'):∀ c,o.op≠.defer c:=fun c hc=>by
 simp only [execOp,hc,Sem.run_bind] at h
 cases hr:(resolve ρ c o.type).run P w<;>simp [hr,Result.andThen] at h
theorem notDefer_skip {P:Program} {o:Oper} {ρ:Operand→Value} {w w' :World} (h:(execOp ρ o).run P w=.ok .skip w'):∀ c,o.op≠.defer c:=fun c hc=>by
 simp only [execOp,hc,Sem.run_bind] at h
 cases hr:(resolve ρ c o.type).run P w<;>simp [hr,Result.andThen] at h
theorem O.fire {ro:Option Nat} {P:Program} {ops:Array Oper} {i:Nat} {o:Oper} {l:List Nat} {a:Act} {w:World} {Q:Exit→Act→World→Prop} {r:Result Next} (hi:ops[i]?=some o) (hg:Region.wanted o (yielded ops a.tmps)=true)
  (hnd:∀ c,o.op≠.defer c) (hr:(execOp a.eval o).run P w=r) (h:o.uponIn (Wd ro) 0 P a (wpOpsIn (Wd ro) 0 P ops Q l) Q r):wpOpsIn (Wd ro) 0 P ops Q (i::l) a w:=by
 simp only [wpOpsIn,hi,hg,if_true];exact ⟨fun _ _=>trivial,by rw [Oper.semAt_eq _ _ _ hnd,hr];exact h⟩
theorem calls_wd {ro:Option Nat} {P:Program} {f:FuncId} {args:Array Value} {w:World} {K:Ending→World→Prop} (h:Calls P f args w K):((Wd ro).depth.isSome=true→1≤0)∧CallsIn (Wd ro) (0 - 1) P f args w K :=
 ⟨fun h=>(by cases h),(callsIn_wide (n:=0)).2 h⟩
theorem O.op {ops:Array Oper} {i d:Nat} {l:List Nat} {op:Op} {v:Value} (ho:Fires ops i n σ d op) (hdo:Does P op σ g η v η')
  (h:O ro P fn n R ops l k ((d,v)::σ) D g η'):O ro P fn n R ops (i::l) k σ D g η:=by
 intro a w hf hd hw
 obtain ⟨o,hi,hdst,hop,hg,hb⟩:=ho.spec;obtain ⟨w',hrun,hw'⟩:=hdo o a.eval w hop hf.knows hw;refine O.fire hi (hg a hf) (notDefer_value hrun) hrun ?_;rw [Oper.uponIn_value,hdst];exact h _ _ (hf.put hb) hd hw'
theorem O.opU {ops:Array Oper} {i:Nat} {l:List Nat} {op:Op} (ho:opAtU ops i=some op) (hdo:DoesU P op σ g η η')
  (h:O ro P fn n R ops l k σ D g η'):O ro P fn n R ops (i::l) k σ D g η:=by
 intro a w hf hd hw
 obtain ⟨o,hi,hdst,hop,hg⟩:=opAtU_spec ho;obtain ⟨w',hrun,hw'⟩:=hdo o a.eval w hop hf.knows hw;refine O.fire hi (by simp [Region.wanted,hg]) (notDefer_skip hrun) hrun ?_;rw [Oper.uponIn_skip,hdst];exact h _ _ hf hd hw'
def notB (b:Bool):Value→Bool|.bool c=>c !=b|_=>true
theorem O.opN {ops:Array Oper} {i d t:Nat} {l:List Nat} {op:Op} {b:Bool} {v:Value} (ho:opAtG ops i n=some (d,op,t,b)) (hl:look σ t=some v) (hv:notB b v=true)
  (h:O ro P fn n R ops l k ((d,undef)::σ) D g η):O ro P fn n R ops (i::l) k σ D g η:=by
 intro a w hf hd hw
 obtain ⟨o,j,oj,hi,hdst,hop,hg,hj,ht,hb⟩:=opAtG_spec ho;have hgw:Region.wanted o (yielded ops a.tmps)=false:=by
  have:=hf.2 t _ hl
  cases v<;>simp [Region.wanted,hg,yielded,hj,ht,this]
  cases b<;>simp_all [notB]
 simp only [wpOpsIn,hi,hgw,Bool.false_eq_true,if_false];rw [hdst];exact ⟨fun _ _=>trivial,h _ _ (hf.put hb) hd hw⟩
theorem O.caseB {ops:Array Oper} {l:List Nat} {b:Bool} (t:Nat) (hl:look σ t=some (.bool b)) (ht:b=true→O ro P fn n R ops l k ((t,.bool true)::σ) D g η)
  (hf:b=false→O ro P fn n R ops l k ((t,.bool false)::σ) D g η):O ro P fn n R ops l k σ D g η:=by
 cases b
 ·exact O.weaken (Sub.cons hl Sub.refl) (hf rfl)
 ·exact O.weaken (Sub.cons hl Sub.refl) (ht rfl)
theorem O.caseD {ops:Array Oper} {l:List Nat} {p:Prop} [Decidable p] (t:Nat) (hl:look σ t=some (.bool (decide p))) (ht:p→O ro P fn n R ops l k ((t,.bool true)::σ) D g η)
  (hf:¬p→O ro P fn n R ops l k ((t,.bool false)::σ) D g η):O ro P fn n R ops l k σ D g η :=
 O.caseB t hl (fun h=>ht (of_decide_eq_true h)) (fun h=>hf (of_decide_eq_false h))
theorem results_one {t:Tmp} {v:Value} {a:Act} {w:World} (hr:fn.results=#[.tmp t]) (hf:Fits a n σ) (hl:look σ t=some v):(results fn a.tmps).run P w=.ok v w:=by
 have:=hf.2 t v hl
 simp [results,hr,Array.getD_eq_getD_getElem?,this]
theorem S.ret {t:Tmp} {v:Value} (hr:fn.results=#[.tmp t]) (hl:look σ t=some v) (h:∀ w,Holds w g η→R (.returned v) w):S none P fn n R (.code .ret::k) σ [] g η:=by
 intro a w hf hd hw
 refine .ret ?_;simp only [Post,hd,Lv,Leaves];exact ⟨v,results_one hr hf hl,h w hw⟩
theorem S.end0 (hr:fn.results=#[]) (h:∀ w,Holds w g η→R (.returned (.tuple #[])) w):S none P fn n R [] σ [] g η:=by
 intro a w hf hd hw
 refine .nil ?_;simp only [Post,hd,Lv,Leaves];exact ⟨.tuple #[],by simp [results,hr],h w hw⟩
theorem S.ret2 {t s:Tmp} {v u:Value} (hr:fn.results=#[.tmp t,.tmp s]) (hl:look σ t=some v) (hl' :look σ s=some u) (h:∀ w,Holds w g η→R (.returned (.tuple #[v,u])) w) :
  S none P fn n R (.code .ret::k) σ [] g η:=by
 intro a w hf hd hw
 refine .ret ?_;simp only [Post,hd,Lv,Leaves];refine ⟨.tuple #[v,u],?_,h w hw⟩
 simp [results,hr,Array.getD_eq_getD_getElem?,hf.2 t v hl,hf.2 s u hl']
end rules
def Con (P:Program) (f:FuncId) (args:Array Value) (r:Fr) (η:List SProp) (Post:Ending→List SProp→Prop):Prop :=
 ∀ g:Gr,r.sub g.h→∀ w,Holds w g η→Calls P f args w fun e w' =>∃ η',Post e η' ∧Holds w' g η'
def Ret (K:Value→List SProp→Prop):Ending→List SProp→Prop
 |.returned v,η=>K v η
 |_,_=>False
def RetP (K:Value→List SProp→Prop) (X:List PanicEntry→List SProp→Prop):Ending→List SProp→Prop
 |.returned v,η=>K v η
 |.panicked ch,η=>X ch η
 |.outgrown,_=>False
section con
variable {ro:Option Nat} {P:Program} {fn:Func} {n:Nat} {f:FuncId} {args:Array Value} {r:Fr} {η:List SProp} {Post:Ending→List SProp→Prop}
def slots:List Value→Nat→List (Nat × Value)
 |[],_=>[]
 |v::vs,i=>(i,v)::slots vs (i+1)
theorem look_slots:∀ (vs:List Value) (i t:Nat) (v:Value),look (slots vs i) t=some v→i≤t∧vs[t - i]?=some v
 |[],_,_,_,h=>by cases h
 |u::vs,i,t,v,h=>by
  simp only [slots,look] at h
  split at h
  ·rename_i hb;cases h;have:=Nat.eq_of_beq_eq_true hb;subst this;simp
  ·rename_i hb
   have hne:i≠t:=by rintro rfl;simp at hb
   obtain ⟨h1,h2⟩:=look_slots vs (i+1) t v h;have:t - i=(t - (i+1))+1:=by omega
   exact ⟨by omega,by rw [this];simpa using h2⟩
theorem Con.of {c:Code} (vs:List Value) (ha:args=vs.toArray) (hf:P.funcs[f]?=some fn) (hb:fn.body=some c) (hn:fn.ntmps=n) (hle:Nat.ble vs.length n=true)
  (h:∀ g:Gr,r.sub g.h→∀ R:Ending→World→Prop,(∀ e η' w',Post e η' →Holds w' g η' →R e w')→S none P fn n R [.code c] (slots vs 0) [] g η):Con P f args r η Post:=by
 intro g hr w hw
 subst ha hn;refine calls_of_runs hf hb (h g hr _ (fun e η' w' hp hh=>⟨η',hp,hh⟩) _ w ⟨?_,?_⟩ rfl hw)
 ·have:vs.length≤fn.ntmps:=Nat.le_of_ble_eq_true hle
  simp;omega
 ·intro t v hl
  obtain ⟨_,h2⟩:=look_slots vs 0 t v hl;simp only [Nat.sub_zero] at h2;have:t<vs.length:=by
   rcases Nat.lt_or_ge t vs.length with q|q
   ·exact q
   ·rw [List.getElem?_eq_none q] at h2;cases h2
  rw [Array.getElem?_append_left (by simpa using this)]
  simpa using h2
theorem Con.mono {Post' :Ending→List SProp→Prop} (h:Con P f args r η Post) (hp:∀ e η',Post e η' →Post' e η'):Con P f args r η Post' :=
 fun g hr w hw=>(h g hr w hw).mono fun _ _ ⟨η',x,y⟩=>⟨η',hp _ _ x,y⟩
theorem Con.sub {r' :Fr} (h:Con P f args r η Post) (hs:r.sub r'):Con P f args r' η Post:=fun g hr w hw=>h g (Fr.sub_trans hs hr) w hw
theorem Con.frame {ζ:List SProp} (h:Con P f args r η Post):Con P f args r (η++ζ) fun e η' =>∃ η₁,Post e η₁∧η' =η₁++ζ :=
 fun g hr w hw=>by
  obtain ⟨k,hk,hd,hw'⟩:=hw.freezeAll;exact (h (g.add k) (Fr.sub_trans hr (Fr.sub_add_left _ _)) w hw').mono fun _ _ ⟨η',x,y⟩=>⟨η' ++ζ,⟨η',x,rfl⟩,y.thawAll hk hd⟩
end con
def callable (P:Program) (f:FuncId):Bool :=
 match P.funcs[f]? with
 | some fn => fn.name != "runtime.NumGoroutine" && fn.body.isSome
 |none=>false
def evs (σ:List (Nat × Value)):List Operand→Option (List Value)
 |[]=>some []
 |x::xs=>match ev σ x,evs σ xs with|some v,some vs=>some (v::vs)|_,_=>none
theorem evs_spec {σ:List (Nat × Value)} {ρ:Operand→Value} (hk:Knows σ ρ):∀ {xs:List Operand} {vs:List Value},evs σ xs=some vs→xs.map ρ=vs
 |[],_,h=>by cases h;rfl
 |x::xs,vs,h=>by
  simp only [evs] at h
  split at h
  ·rename_i v us hv hus;cases h;simp [hk x v hv,evs_spec hk hus]
  ·cases h
theorem run_callFunc {P:Program} {f:FuncId} (hc:callable P f=true) (args:Array Value) (w:World):(callFunc f args).run P w=.ok (.enter f args) w:=by
 unfold callable at hc
 split at hc
 ·rename_i fn hf
  simp only [Bool.and_eq_true,bne_iff_ne,ne_eq] at hc;have h2:fn.body≠none:=by intro hb;rw [hb] at hc;simp at hc
  simp [callFunc,hf,hc.1,h2]
 ·cases hc
theorem run_call {P:Program} {f:FuncId} {first cap:Array Value} {ρ:Operand→Value} {o:Oper} {x:Operand} {xs:Array Operand} {ts:Array TypeId} (ho:o.op=.call ⟨.value x,xs,ts⟩)
  (hx:ρ x=.func (.func f) first cap) (hc:callable P f=true) (w:World):(execOp ρ o).run P w=.ok (.enter f (first++xs.map ρ++cap)) w:=by
 simp [execOp,ho,resolve,hx,Deferred.ofValue,invoke,run_callFunc hc]
section calls
variable {ro:Option Nat} {P:Program} {fn:Func} {n:Nat} {R:Ending→World→Prop} {k:List Item} {σ:List (Nat × Value)} {D:List Deferred} {g:Gr} {η ζ:List SProp}
 {ops:Array Oper} {i d:Nat} {l:List Nat} {f:FuncId} {x:Operand} {xs:Array Operand} {ts:Array TypeId} {vals:List Value} {K:Value→List SProp→Prop}
theorem O.call {first cap:Array Value} (ho:Fires ops i n σ d (.call ⟨.value x,xs,ts⟩)) (hx:ev σ x=some (.func (.func f) first cap)) (hc:callable P f=true)
  (hv:evs σ xs.toList=some vals) {args:Array Value} (hargs:first++vals.toArray++cap=args) (con:Con P f args g.h η (Ret K))
  (h:∀ v η',K v η' →O ro P fn n R ops l k ((d,v)::σ) D g (η' ++ζ)):O ro P fn n R ops (i::l) k σ D g (η++ζ):=by
 intro a w hf hd hw
 obtain ⟨o,hi,hdst,hop,hg,hb⟩:=ho.spec;have hm:xs.map a.eval=vals.toArray:=by
  rw [← evs_spec hf.knows hv,← Array.toList_map]
 refine O.fire hi (hg a hf) (by rw [hop];intro c hc;cases hc) (run_call hop (hf.knows x _ hx) hc w) ?_;rw [Oper.uponIn_enter,hm,hargs];refine calls_wd ?_;refine (con.frame (ζ:=ζ) g (Fr.sub_refl _) w hw).mono fun e w' hh=>?_;obtain ⟨η',⟨η₁,hp,rfl⟩,hw'⟩:=hh
 cases e with
 |returned v =>
  show wpOpsIn (Wd ro) 0 P ops _ l (a.put o.dst v) w'
  rw [hdst];exact h v η₁ hp _ _ (hf.put hb) hd hw'
 |panicked _=>exact hp.elim
 |outgrown=>exact hp.elim
theorem O.callP {first cap:Array Value} {X:List PanicEntry→List SProp→Prop} (ho:Fires ops i n σ d (.call ⟨.value x,xs,ts⟩)) (hx:ev σ x=some (.func (.func f) first cap)) (hc:callable P f=true)
  (hv:evs σ xs.toList=some vals) {args:Array Value} (hargs:first++vals.toArray++cap=args) (con:Con P f args g.h η (RetP K X))
  (hp:∀ ch η' w,X ch η' →Holds w g (η' ++ζ)→R (.panicked ch) w)
  (h:∀ v η',K v η' →O ro P fn n R ops l k ((d,v)::σ) [] g (η' ++ζ)):O ro P fn n R ops (i::l) k σ [] g (η++ζ):=by
 intro a w hf hd hw
 obtain ⟨o,hi,hdst,hop,hg,hb⟩:=ho.spec;have hm:xs.map a.eval=vals.toArray:=by
  rw [← evs_spec hf.knows hv,← Array.toList_map]
 refine O.fire hi (hg a hf) (by rw [hop];intro c hc;cases hc) (run_call hop (hf.knows x _ hx) hc w) ?_;rw [Oper.uponIn_enter,hm,hargs];refine calls_wd ?_;refine (con.frame (ζ:=ζ) g (Fr.sub_refl _) w hw).mono fun e w' hh=>?_;obtain ⟨η',⟨η₁,hq,rfl⟩,hw'⟩:=hh
 cases e with
 |returned v =>
  show wpOpsIn (Wd ro) 0 P ops _ l (a.put o.dst v) w'
  rw [hdst];exact h v η₁ hq _ _ (hf.put hb) hd hw'
 |panicked ch =>
  exact Post.panic hd (hp ch η₁ w' hq hw')
 |outgrown=>exact hq.elim
end calls
end Go.Sp
end
end
section
/- Texts of this proof, one behind the other. -/
section
/- Texts of this proof, one behind the other. -/
section
/- Texts of this proof. -/
namespace Go.Sp
def Fr.cell (h:Fr) (a:Addr):Option Value :=
 match h a.block with
 |some (.cells c _ _)=>if a.spot.isSome then none else c[a.off]?
 |_=>none
theorem Fr.cell_mono {h k:Fr} (s:h.sub k) {a:Addr} {v:Value} (x:h.cell a=some v):k.cell a=some v:=by
 unfold Fr.cell at *
 split at x
 ·rename_i c t f hb;rw [s _ _ hb];exact x
 ·cases x
def flat (P:Program) (t:TypeId):Bool :=
 match P.underlying t with
 |some (.struct _)|some (.array ..)=>false
 |some _=>true
 |none=>false
theorem run_isAgg_flat {P:Program} {t:TypeId} (h:flat P t=true) (w:World):(isAgg t).run P w=.ok false w:=by
 unfold flat at h
 split at h
 ·cases h
 ·cases h
 ·rename_i d h1 h2 hd
  rw [isAgg,Sem.run_bind,run_underlying hd]
  cases d<;>first|rfl|exact (h1 _ rfl).elim|exact (h2 _ _ rfl).elim
 ·cases h
section
variable {P:Program} {σ:List (Nat × Value)} {g:Gr} {η:List SProp}
theorem Does.run {op:Op} {v:Value} (h:∀ (o:Oper) (ρ:Operand→Value) (w:World),o.op=op→Knows σ ρ→(execOp ρ o).run P w=.ok (.value v) w):Does P op σ g η v η :=
 fun o ρ w ho hk hw=>⟨w,h o ρ w ho hk,hw⟩
theorem Does.mv {x:Operand} {v:Value} (hx:ev σ x=some v):Does P (.move x) σ g η v η:=.run fun o ρ w ho hk=>by simp [execOp,ho,hk x v hx]
theorem Does.as {x:Operand} {v:Value} (hx:ev σ x=some v):Does P (.assign x) σ g η v η:=.run fun o ρ w ho hk=>by simp [execOp,ho,hk x v hx]
theorem Does.pickT {c x y:Operand} {v:Value} (hc:ev σ c=some (.bool true)) (hx:ev σ x=some v):Does P (.pick c x y) σ g η v η :=
 .run fun o ρ w ho hk=>by simp [execOp,ho,hk x v hx,hk c _ hc,asBool]
theorem Does.pickF {c x y:Operand} {v:Value} (hc:ev σ c=some (.bool false)) (hx:ev σ y=some v):Does P (.pick c x y) σ g η v η :=
 .run fun o ρ w ho hk=>by simp [execOp,ho,hk y v hx,hk c _ hc,asBool]
theorem Does.int2 {op:BinOp} {t u:TypeId} {x y:Operand} {j:IntKind} {a b:Int} {v:Value} (hx:ev σ x=some (.int j a)) (hy:ev σ y=some (.int j b))
  (h:∀ w,(Go.binOp op t (.int j a) (.int j b)).run P w=.ok v w):Does P (.binOp op t x y u) σ g η v η :=
 .run fun o ρ w ho hk=>by
  have:=h w
  simp [execOp,ho,hk x _ hx,hk y _ hy,eqGuard,this]
theorem Does.add {t u:TypeId} {x y:Operand} {j:IntKind} {a b:Int} (hx:ev σ x=some (.int j a)) (hy:ev σ y=some (.int j b)) (hw:j.wrap (a+b)=a+b) :
  Does P (.binOp .add t x y u) σ g η (.int j (a+b)) η:=.int2 hx hy fun w=>by simp [Go.binOp,Op.intArith,hw]
theorem Does.sub {t u:TypeId} {x y:Operand} {j:IntKind} {a b:Int} (hx:ev σ x=some (.int j a)) (hy:ev σ y=some (.int j b)) (hw:j.wrap (a - b)=a - b) :
  Does P (.binOp .sub t x y u) σ g η (.int j (a - b)) η:=.int2 hx hy fun w=>by simp [Go.binOp,Op.intArith,hw]
theorem Does.mul {t u:TypeId} {x y:Operand} {j:IntKind} {a b:Int} (hx:ev σ x=some (.int j a)) (hy:ev σ y=some (.int j b)) (hw:j.wrap (a*b)=a*b) :
  Does P (.binOp .mul t x y u) σ g η (.int j (a*b)) η:=.int2 hx hy fun w=>by simp [Go.binOp,Op.intArith,hw]
theorem Does.addW {t u:TypeId} {x y:Operand} {j:IntKind} {a b:Int} (hx:ev σ x=some (.int j a)) (hy:ev σ y=some (.int j b)) :
  Does P (.binOp .add t x y u) σ g η (.int j (j.wrap (a+b))) η:=.int2 hx hy fun w=>by simp [Go.binOp,Op.intArith]
theorem Does.subW {t u:TypeId} {x y:Operand} {j:IntKind} {a b:Int} (hx:ev σ x=some (.int j a)) (hy:ev σ y=some (.int j b)) :
  Does P (.binOp .sub t x y u) σ g η (.int j (j.wrap (a - b))) η:=.int2 hx hy fun w=>by simp [Go.binOp,Op.intArith]
theorem Does.mulW {t u:TypeId} {x y:Operand} {j:IntKind} {a b:Int} (hx:ev σ x=some (.int j a)) (hy:ev σ y=some (.int j b)) :
  Does P (.binOp .mul t x y u) σ g η (.int j (j.wrap (a*b))) η:=.int2 hx hy fun w=>by simp [Go.binOp,Op.intArith]
theorem Does.quo {t u:TypeId} {x y:Operand} {j:IntKind} {a b:Int} (hx:ev σ x=some (.int j a)) (hy:ev σ y=some (.int j b)) (h0:b≠0) :
  Does P (.binOp .quo t x y u) σ g η (.int j (j.wrap (a.tdiv b))) η:=.int2 hx hy fun w=>by simp [Go.binOp,Op.intDiv,h0]
theorem Does.rem {t u:TypeId} {x y:Operand} {j:IntKind} {a b:Int} (hx:ev σ x=some (.int j a)) (hy:ev σ y=some (.int j b)) (h0:b≠0) :
  Does P (.binOp .rem t x y u) σ g η (.int j (a.tmod b)) η:=.int2 hx hy fun w=>by simp [Go.binOp,Op.intDiv,h0]
theorem Does.lss {t u:TypeId} {x y:Operand} {j:IntKind} {a b:Int} (hx:ev σ x=some (.int j a)) (hy:ev σ y=some (.int j b)) :
  Does P (.binOp .lss t x y u) σ g η (.bool (decide (a<b))) η:=.int2 hx hy fun w=>by simp [Go.binOp,Op.intCmp]
theorem Does.leq {t u:TypeId} {x y:Operand} {j:IntKind} {a b:Int} (hx:ev σ x=some (.int j a)) (hy:ev σ y=some (.int j b)) :
  Does P (.binOp .leq t x y u) σ g η (.bool (decide (a≤b))) η:=.int2 hx hy fun w=>by simp [Go.binOp,Op.intCmp]
theorem Does.gtr {t u:TypeId} {x y:Operand} {j:IntKind} {a b:Int} (hx:ev σ x=some (.int j a)) (hy:ev σ y=some (.int j b)) :
  Does P (.binOp .gtr t x y u) σ g η (.bool (decide (b<a))) η:=.int2 hx hy fun w=>by simp [Go.binOp,Op.intCmp]
theorem Does.geq {t u:TypeId} {x y:Operand} {j:IntKind} {a b:Int} (hx:ev σ x=some (.int j a)) (hy:ev σ y=some (.int j b)) :
  Does P (.binOp .geq t x y u) σ g η (.bool (decide (b≤a))) η:=.int2 hx hy fun w=>by simp [Go.binOp,Op.intCmp]
theorem Does.eql {t u:TypeId} {x y:Operand} {j:IntKind} {a b:Int} (hx:ev σ x=some (.int j a)) (hy:ev σ y=some (.int j b)) :
  Does P (.binOp .eql t x y u) σ g η (.bool (decide (a=b))) η:=.int2 hx hy fun w=>by simp [Go.binOp,Op.intCmp];rfl
theorem Does.neq {t u:TypeId} {x y:Operand} {j:IntKind} {a b:Int} (hx:ev σ x=some (.int j a)) (hy:ev σ y=some (.int j b)) :
  Does P (.binOp .neq t x y u) σ g η (.bool (decide (a≠b))) η:=.int2 hx hy fun w=>by simp [Go.binOp,Op.intCmp];rfl
theorem Does.shl {t u:TypeId} {x y:Operand} {j i:IntKind} {a b:Int} (hx:ev σ x=some (.int j a)) (hy:ev σ y=some (.int i b)) (h0:0≤b) :
  Does P (.binOp .shl t x y u) σ g η (.int j (j.wrap (a*2 ^ min b.toNat j.bits))) η :=
 .run fun o ρ w ho hk=>by
  have:¬ b<0:=by omega
  simp [execOp,ho,hk x _ hx,hk y _ hy,eqGuard,Go.binOp,Op.shift,this]
theorem Does.shr {t u:TypeId} {x y:Operand} {j i:IntKind} {a b:Int} (hx:ev σ x=some (.int j a)) (hy:ev σ y=some (.int i b)) (h0:0≤b) :
  Does P (.binOp .shr t x y u) σ g η (.int j (a.fdiv (2 ^ min b.toNat j.bits))) η :=
 .run fun o ρ w ho hk=>by
  have:¬ b<0:=by omega
  simp [execOp,ho,hk x _ hx,hk y _ hy,eqGuard,Go.binOp,Op.shift,this]
def bitsOf (op:BinOp) (k:IntKind) (a b:Int):Int :=
 let x:=BitVec.ofInt k.bits a
 let y:=BitVec.ofInt k.bits b
 match op with
 |.and=>k.wrap (x &&& y).toNat
 | .or => k.wrap (x ||| y).toNat
 |.xor=>k.wrap (x ^^^ y).toNat
 | .andNot => k.wrap (x &&& ~~~y).toNat
 |_=>0
theorem Does.and {t u:TypeId} {x y:Operand} {j:IntKind} {a b:Int} (hx:ev σ x=some (.int j a)) (hy:ev σ y=some (.int j b)) :
  Does P (.binOp .and t x y u) σ g η (.int j (bitsOf .and j a b)) η:=.int2 hx hy fun w=>by simp [Go.binOp,Op.intBits,bitsOf]
theorem Does.or {t u:TypeId} {x y:Operand} {j:IntKind} {a b:Int} (hx:ev σ x=some (.int j a)) (hy:ev σ y=some (.int j b)) :
  Does P (.binOp .or t x y u) σ g η (.int j (bitsOf .or j a b)) η:=.int2 hx hy fun w=>by simp [Go.binOp,Op.intBits,bitsOf]
theorem Does.xor {t u:TypeId} {x y:Operand} {j:IntKind} {a b:Int} (hx:ev σ x=some (.int j a)) (hy:ev σ y=some (.int j b)) :
  Does P (.binOp .xor t x y u) σ g η (.int j (bitsOf .xor j a b)) η:=.int2 hx hy fun w=>by simp [Go.binOp,Op.intBits,bitsOf]
theorem Does.not {t:TypeId} {x:Operand} {b:Bool} (hx:ev σ x=some (.bool b)):Does P (.unOp .not t x) σ g η (.bool (!b)) η :=
 .run fun o ρ w ho hk=>by simp [execOp,ho,hk x _ hx,Op.unary]
theorem Does.neg {t:TypeId} {x:Operand} {j:IntKind} {a:Int} (hx:ev σ x=some (.int j a)):Does P (.unOp .neg t x) σ g η (.int j (j.wrap (0 - a))) η :=
 .run fun o ρ w ho hk=>by simp [execOp,ho,hk x _ hx,Op.unary,Op.intArith]
theorem Does.compl {t:TypeId} {x:Operand} {j:IntKind} {a:Int} (hx:ev σ x=some (.int j a)):Does P (.unOp .xor t x) σ g η (.int j (bitsOf .xor j (if j.signed then -1 else j.max) a)) η :=
 .run fun o ρ w ho hk=>by simp [execOp,ho,hk x _ hx,Op.unary,Op.intBits,bitsOf]
theorem Does.cvt {s t:TypeId} {x:Operand} {j k:IntKind} {a:Int} {d:TypeDesc} (hs:P.underlying s=some d) (ht:P.underlying t=some (.int k)) (hx:ev σ x=some (.int j a)) :
  Does P (.convert s t x) σ g η (.int k (k.wrap a)) η :=
 .run fun o ρ w ho hk=>by simp [execOp,ho,hk x _ hx,convert,run_underlying hs,run_underlying ht,Conv.intToInt]
theorem run_equal_bool {t:TypeId} (ht:P.underlying t=some .bool) (a b:Bool) (w:World):(Op.equal t (.bool a) (.bool b)).run P w=.ok (a ==b) w:=by
 show (Op.equalIn (9999+1) t (.bool a) (.bool b)).run P w=_
 rw [Op.equalIn]
 simp [run_underlying ht]
theorem Does.eqlB {t u:TypeId} {x y:Operand} {a b:Bool} (ht:P.underlying t=some .bool) (hx:ev σ x=some (.bool a)) (hy:ev σ y=some (.bool b)) :
  Does P (.binOp .eql t x y u) σ g η (.bool (decide (a=b))) η :=
 .run fun o ρ w ho hk=>by simp [execOp,ho,hk x _ hx,hk y _ hy,eqGuard,Go.binOp,run_equal_bool ht];rfl
theorem Does.neqB {t u:TypeId} {x y:Operand} {a b:Bool} (ht:P.underlying t=some .bool) (hx:ev σ x=some (.bool a)) (hy:ev σ y=some (.bool b)) :
  Does P (.binOp .neq t x y u) σ g η (.bool (decide (a≠b))) η :=
 .run fun o ρ w ho hk=>by
  simp [execOp,ho,hk x _ hx,hk y _ hy,eqGuard,Go.binOp,run_equal_bool ht]
  cases a<;>cases b<;>rfl
theorem Does.eqlS {t u:TypeId} {x y:Operand} {a b:ByteArray} (hx:ev σ x=some (.string a)) (hy:ev σ y=some (.string b)) :
  Does P (.binOp .eql t x y u) σ g η (.bool (decide (a.toList=b.toList))) η :=
 .run fun o ρ w ho hk=>by
  have:(a.toList ==b.toList)=decide (a.toList=b.toList):=by rw [Bool.eq_iff_iff];simp
  simp [execOp,ho,hk x _ hx,hk y _ hy,eqGuard,Go.binOp,Op.stringOp,this]
theorem Does.neqS {t u:TypeId} {x y:Operand} {a b:ByteArray} (hx:ev σ x=some (.string a)) (hy:ev σ y=some (.string b)) :
  Does P (.binOp .neq t x y u) σ g η (.bool (decide (a.toList≠b.toList))) η :=
 .run fun o ρ w ho hk=>by
  have:(a.toList ==b.toList)=decide (a.toList=b.toList):=by rw [Bool.eq_iff_iff];simp
  simp [execOp,ho,hk x _ hx,hk y _ hy,eqGuard,Go.binOp,Op.stringOp,this]
theorem Does.len {t:TypeId} {x:Operand} {e:TypeId} {a:Option Addr} {m c:Nat} {ts:Array TypeId} (hts:ts[0]?=some t) (ht:P.underlying t=some (.slice e)) (hx:ev σ x=some (.slice a m c)) :
  Does P (.call ⟨.builtin .len,#[x],ts⟩) σ g η (.int .i64 (m:Int)) η :=
 .run fun o ρ w ho hk=>by simp [execOp,ho,resolve,invoke,builtin,hk x _ hx,Builtin.len_,hts,run_underlying ht,goInt]
theorem Does.cap {t:TypeId} {x:Operand} {e:TypeId} {a:Option Addr} {m c:Nat} {ts:Array TypeId} (hts:ts[0]?=some t) (ht:P.underlying t=some (.slice e)) (hx:ev σ x=some (.slice a m c)) :
  Does P (.call ⟨.builtin .cap,#[x],ts⟩) σ g η (.int .i64 (c:Int)) η :=
 .run fun o ρ w ho hk=>by simp [execOp,ho,resolve,invoke,builtin,hk x _ hx,Builtin.cap_,hts,run_underlying ht,goInt]
theorem Does.lenS {t:TypeId} {x:Operand} {s:ByteArray} {ts:Array TypeId} (hts:ts[0]?=some t) (ht:P.underlying t=some .string) (hx:ev σ x=some (.string s)) :
  Does P (.call ⟨.builtin .len,#[x],ts⟩) σ g η (.int .i64 (s.size:Int)) η :=
 .run fun o ρ w ho hk=>by simp [execOp,ho,resolve,invoke,builtin,hk x _ hx,Builtin.len_,hts,run_underlying ht,goInt]
theorem Does.extract {x:Operand} {vs:Array Value} {j:Nat} {v:Value} (hx:ev σ x=some (.tuple vs)) (hj:vs[j]?=some v):Does P (.extract x j) σ g η v η :=
 .run fun o ρ w ho hk=>by simp [execOp,ho,hk x _ hx,Instr.extract,hj]
theorem Does.mkFunc {fn:Go.Fn} {first cap:Array Operand} {vs us:List Value} (h1:evs σ first.toList=some vs) (h2:evs σ cap.toList=some us) :
  Does P (.makeFunc fn first cap) σ g η (.func fn vs.toArray us.toArray) η :=
 .run fun o ρ w ho hk=>by
  have e1:first.map ρ=vs.toArray:=by rw [← evs_spec hk h1,← Array.toList_map]
  have e2:cap.map ρ=us.toArray:=by rw [← evs_spec hk h2,← Array.toList_map]
  simp [execOp,ho,Instr.makeFunc,e1,e2]
theorem Does.nilCheck {x:Operand} {a:Addr} (hx:ev σ x=some (.pointer (some a))):Does P (.nilCheck x) σ g η (.pointer (some a)) η :=
 .run fun o ρ w ho hk=>by simp [execOp,ho,hk x _ hx]
end
end Go.Sp
end
section
/- Texts of this proof. -/
namespace Go.Sp
def flat1 (P:Program) (t:TypeId):Bool:=flat P t && ((P.info? t).map (·.size) ==some 1)
theorem flat1_flat {P:Program} {t:TypeId} (h:flat1 P t=true):flat P t=true:=by unfold flat1 at h;simp at h;exact h.1
theorem run_sizeOf {P:Program} {t:TypeId} {m:Nat} (h:(P.info? t).map (·.size)=some m) (w:World):(sizeOf t).run P w=.ok m w:=by
 cases hi:P.info? t with
 |none=>rw [hi] at h;cases h
 |some i=>rw [hi] at h;simp at h;simp [sizeOf,typeInfo,hi,h]
def At (h:Fr) (p:Addr) (cs:List Value):Prop:=∀ j (hj:j<cs.length),h.cell (p.add j)=some cs[j]
theorem At.mono {h k:Fr} {p:Addr} {cs:List Value} (s:h.sub k) (x:At h p cs):At k p cs:=fun j hj=>Fr.cell_mono s (x j hj)
theorem Addr.add_add (a:Addr) (i j:Nat):(a.add i).add j=a.add (i+j):=by
 unfold Addr.add
 by_cases hi:i=0
 ·subst hi;simp
 ·by_cases hj:j=0
  ·subst hj;simp
  ·have:i+j≠0:=by omega
   simp [hi,hj,Nat.add_assoc]
theorem Addr.add_zero (a:Addr):a.add 0=a:=by simp [Addr.add]
theorem At.drop {h:Fr} {p:Addr} {cs:List Value} (x:At h p cs) (i:Nat):At h (p.add i) (cs.drop i):=fun j hj=>by
 rw [Addr.add_add,x (i+j) (by simp at hj;omega)];simp
theorem At.take {h:Fr} {p:Addr} {cs:List Value} (x:At h p cs) (i:Nat):At h p (cs.take i):=fun j hj=>by
 rw [x j (by simp at hj;omega)];simp
theorem At.at {h:Fr} {p:Addr} {cs:List Value} (x:At h p cs) {j:Nat} {v:Value} (hv:cs[j]?=some v):h.cell (p.add j)=some v:=by
 obtain ⟨hj,rfl⟩:=List.getElem?_eq_some_iff.1 hv;exact x j hj
def Sl (h:Fr) (v:Value) (k m:Nat) (cs:List Value):Prop :=
 ∃ a cap,v=.slice a m cap∧m≤cap∧(cap≤9223372036854775807∧(a=none→cap=0))∧cs.length=m*k∧∀ j (hj:j<cs.length),∃ p,a=some p∧h.cell (p.add j)=some cs[j]
theorem Sl.mono {h h' :Fr} {v:Value} {k m:Nat} {cs:List Value} (s:h.sub h'):Sl h v k m cs→Sl h' v k m cs
 |⟨a,cap,h1,h2,h3,h4,h5⟩=>⟨a,cap,h1,h2,h3,h4,fun j hj=>let ⟨p,x,y⟩:=h5 j hj;⟨p,x,Fr.cell_mono s y⟩⟩
theorem Sl.bound {h:Fr} {v:Value} {k m:Nat} {cs:List Value}:Sl h v k m cs→m≤9223372036854775807
 |⟨_,_,_,h1,h2,_,_⟩=>Nat.le_trans h1 h2.1
def obj (b:Nat) (T:TypeId) (cs:List Value):SProp:=blk b (.cells cs.toArray T (0,0))
def Thawed (fz:Nat × Nat) (n:Nat):Prop:=∀ j,j<n→¬(fz.1≤j∧j<fz.2)
theorem thawed0 (n:Nat):Thawed (0,0) n:=fun j _ h=>Nat.not_lt_zero j h.2
def Own (v:Value) (k:Nat) (T:TypeId) (m:Nat) (cs:List Value):SProp:=fun h =>
 cs.length=m*k∧((v=.slice none 0 0∧m=0) ∨
  ∃ b cap cur,v=.slice (some ⟨b,0,none⟩) m cap∧(∃ fz,h b=some (.cells cur T fz)∧Thawed fz (cap*k))∧m≤cap∧cap≤9223372036854775807∧cur.size=cap*k∧cur.toList.take (m*k)=cs)
theorem Own.sl {h:Fr} {v:Value} {k m:Nat} {T:TypeId} {cs:List Value}:Own v k T m cs h→Sl h v k m cs
 |⟨hl,.inl ⟨hv,hm⟩⟩=>by subst hv hm;exact ⟨none,0,rfl,Nat.le_refl _,⟨by omega,fun _=>rfl⟩,hl,fun j hj=>by omega⟩
 |⟨hl,.inr ⟨b,cap,cur,hv,⟨fz,hb,_⟩,h1,h2,h3,h4⟩⟩=>by
  subst hv;refine ⟨_,cap,rfl,h1,⟨h2,fun h=>by cases h⟩,hl,fun j hj=>⟨_,rfl,?_⟩⟩;have hj' :j<m*k:=by omega
  have:(⟨b,0,none⟩:Addr).add j=⟨b,j,none⟩:=by
   unfold Addr.add;split
   ·rename_i hz;subst hz;rfl
   ·simp
  rw [this];simp only [Fr.cell,hb];subst h4;simp only [Option.isSome_none,Bool.false_eq_true,if_false,List.getElem_take];have:j<cur.size:=by
   have:=List.length_take_le (m*k) cur.toList
   simp at hj;omega
  simp [this]
section
variable {ro:Option Nat} {P:Program} {σ:List (Nat × Value)} {g:Gr} {η ζ:List SProp}
theorem Does.load {t:TypeId} {x:Operand} {p:Addr} {v:Value} (ht:flat1 P t=true) (hx:ev σ x=some (.pointer (some p))) (hp:g.h.cell p=some v):Does P (.load t x) σ g η v η :=
 fun o ρ w ho hk hw=>⟨w,by
  have hc:w.cell? p=some v:=Fr.cell_mono hw.ground hp
  simp [execOp,ho,hk x _ hx,Instr.loadAt,Instr.sureAddr,loadVar,run_isAgg_flat (flat1_flat ht),hc],hw⟩
theorem Does.loadAgg {t:TypeId} {x:Operand} {p:Addr} {cs:List Value} (ht:∀ w,(isAgg t).run P w=.ok true w) (hs:(P.info? t).map (·.size)=some cs.length)
  (hx:ev σ x=some (.pointer (some p))) (hp:At g.h p cs):Does P (.load t x) σ g η (.agg cs.toArray) η :=
 fun o ρ w ho hk hw=>⟨w,by
  have hr:=run_loadCells_list (P:=P) w p cs fun j v hj=>Fr.cell_mono hw.ground (hp.at hj)
  simp [execOp,ho,hk x _ hx,Instr.loadAt,Instr.sureAddr,loadVar,ht,run_sizeOf hs,hr],hw⟩
theorem Holds.obj_cell {w:World} {b:Nat} {T:TypeId} {cs:List Value} (h:Holds w g (obj b T cs::η)) {j:Nat} {v:Value} (hj:cs[j]?=some v):w.cell? ⟨b,j,none⟩=some v:=by
 have:=h.block
 simp [World.cell?,this,hj]
theorem Does.loadObj {t T:TypeId} {x:Operand} {b j:Nat} {cs:List Value} {v:Value} (ht:flat1 P t=true) (hx:ev σ x=some (.pointer (some ⟨b,j,none⟩))) (hs:Sel η (obj b T cs) ζ) (hj:cs[j]?=some v) :
  Does P (.load t x) σ g η v η :=
 fun o ρ w ho hk hw=>⟨w,by
  have hc:w.cell? ⟨b,j,none⟩=some v:=(hw.sel hs).obj_cell hj
  simp [execOp,ho,hk x _ hx,Instr.loadAt,Instr.sureAddr,loadVar,run_isAgg_flat (flat1_flat ht),hc],hw⟩
theorem add_lit (b i j:Nat):(⟨b,i,none⟩:Addr).add j=⟨b,i+j,none⟩:=by
 unfold Addr.add;split
 ·rename_i hz;subst hz;rfl
 ·rfl
theorem Does.loadObjAgg {t T:TypeId} {x:Operand} {b i:Nat} {cs news:List Value} (ht:∀ w,(isAgg t).run P w=.ok true w) (hsz:(P.info? t).map (·.size)=some news.length)
  (hx:ev σ x=some (.pointer (some ⟨b,i,none⟩))) (hs:Sel η (obj b T cs) ζ) (hn:(cs.drop i).take news.length=news):Does P (.load t x) σ g η (.agg news.toArray) η :=
 fun o ρ w ho hk hw=>⟨w,by
  have hr:=run_loadCells_list (P:=P) w ⟨b,i,none⟩ news fun j v hj=>by
   rw [add_lit];refine (hw.sel hs).obj_cell ?_;have hjl:j<news.length:=(List.getElem?_eq_some_iff.1 hj).1;rw [← hn,List.getElem?_take_of_lt hjl,List.getElem?_drop] at hj;exact hj
  simp [execOp,ho,hk x _ hx,Instr.loadAt,Instr.sureAddr,loadVar,ht,run_sizeOf hsz,hr],hw⟩
def fieldOff (P:Program) (s f:Nat):Option Nat :=
 match P.underlying s with
 |some (.struct fs) =>
  match fs[f]? with
  |some fd=>match (P.info? fd.type).map (·.size) with|some (_+1)=>some fd.offset|_=>none
  |none=>none
 |_=>none
theorem run_fieldAt {s f off:Nat} (h:fieldOff P s f=some off) (a:Addr) (w:World):(Instr.fieldAt s (.pointer (some a)) f).run P w=.ok (.pointer (some (a.add off))) w:=by
 unfold fieldOff at h
 split at h
 ·rename_i fs hu
  split at h
  ·rename_i fd hf
   split at h
   ·rename_i m hm
    cases h
    simp [Instr.fieldAt,run_underlying hu,hf,Instr.sureAddr,fieldPlace,run_sizeOf hm]
   ·cases h
  ·cases h
 ·cases h
theorem Does.fieldAddr {s f off:Nat} {x:Operand} {a:Addr} (h:fieldOff P s f=some off) (hx:ev σ x=some (.pointer (some a))):Does P (.fieldAddr s x f) σ g η (.pointer (some (a.add off))) η :=
 .run fun o ρ w ho hk=>by simp [execOp,ho,hk x _ hx,run_fieldAt h]
theorem Does.fieldObj {s f off b i:Nat} {x:Operand} (h:fieldOff P s f=some off) (hx:ev σ x=some (.pointer (some ⟨b,i,none⟩))):Does P (.fieldAddr s x f) σ g η (.pointer (some ⟨b,i+off,none⟩)) η:=by
 have:=Does.fieldAddr (g:=g) (η:=η) h hx;rwa [add_lit] at this
def DoesE (P:Program) (op:Op) (σ:List (Nat × Value)) (g:Gr) (η:List SProp) (K:Value→List SProp→Prop):Prop :=
 ∀ (o:Oper) (ρ:Operand→Value) (w:World),o.op=op→Knows σ ρ→Holds w g η→∃ v w' η',K v η' ∧(execOp ρ o).run P w=.ok (.value v) w' ∧Holds w' g η'
theorem O.opE {ro:Option Nat} {fn:Func} {n:Nat} {R:Ending→World→Prop} {k:List Item} {D:List Deferred} {ops:Array Oper} {i d:Nat} {l:List Nat} {op:Op} {K:Value→List SProp→Prop}
  (ho:Fires ops i n σ d op) (hdo:DoesE P op σ g η K) (h:∀ v η',K v η' →O ro P fn n R ops l k ((d,v)::σ) D g η'):O ro P fn n R ops (i::l) k σ D g η:=by
 intro a w hf hd hw
 obtain ⟨o,hi,hdst,hop,hg,hb⟩:=ho.spec;obtain ⟨v,w',η',hk,hrun,hw'⟩:=hdo o a.eval w hop hf.knows hw;refine O.fire hi (hg a hf) (notDefer_value hrun) hrun ?_;rw [Oper.uponIn_value,hdst];exact h v η' hk _ _ (hf.put hb) hd hw'
theorem Holds.allocObj {w:World} (h:Holds w g η) (T:TypeId) (cs:Array Value):Holds (w.alloc (.cells cs T)) g (obj w.heap.size T cs.toList::η):=by
 have:=h.alloc (.cells cs T)
 simpa [obj] using this
theorem DoesE.alloc {T:TypeId} {z:Value} {cs:List Value} (hz:∀ w,(zeroValue T).run P w=.ok z w) (hc:z.cells.toList=cs):DoesE P (.alloc T) σ g η fun v η' =>∃ b,v=.pointer (some ⟨b,0,none⟩)∧η' =obj b T cs::η :=
 fun o ρ w ho _ hw=>by subst hc;exact ⟨_,_,_,⟨w.heap.size,rfl,rfl⟩,by simp [execOp,ho,Instr.alloc,hz,newVar,newRow],hw.allocObj T z.cells⟩
theorem DoesE.box {T:TypeId} {x:Operand} {v:Value} {cs:List Value} (hx:ev σ x=some v) (hc:v.cells.toList=cs):DoesE P (.box T x) σ g η fun p η' =>∃ b,p=.pointer (some ⟨b,0,none⟩)∧η' =obj b T cs::η :=
 fun o ρ w ho hk hw=>by subst hc;exact ⟨_,_,_,⟨w.heap.size,rfl,rfl⟩,by simp [execOp,ho,Instr.box,hk x _ hx,newVar,newRow],hw.allocObj T v.cells⟩
theorem Holds.setRow {w:World} {b:Nat} {T:TypeId} {cur cs:Array Value} {fz:Nat × Nat} (h:Holds w g (blk b (.cells cur T fz)::η)):Holds (w.setRow b cs) g (blk b (.cells cs T fz)::η) :=
 h.setBlock (setRow_heap w b _ cs T fz h.block) (fun i hi=>setRow_other w b i cs hi) rfl rfl rfl
theorem run_storeCells_z (P:Program) (g o:Nat) (t:TypeId) {fz:Nat × Nat} {n:Nat} (hz:Thawed fz n):∀ (vs:List Value) (i:Nat) (cur:Array Value) (w:World),w.heap[g]?=some (.cells cur t fz)→cur.size≤n→o+i+vs.length≤cur.size→(∀ v∈vs,v.oneCell' =true) →
  (storeCells ⟨g,o,none⟩ vs i).run P w=.ok () (w.setRow g (cur.toList.take (o+i)++vs++cur.toList.drop (o+i+vs.length)).toArray)
 |[],i,cur,w,hg,_,_,_=>by
  simp only [storeCells,List.append_nil,List.length_nil,Nat.add_zero,List.take_append_drop,Array.toArray_toList];rw [setRow_self w g cur t fz hg]
  rfl
 |v::rest,i,cur,w,hg,hn,hl,h1=>by
  have hi:o+i<cur.size:=by simp at hl;omega
  have hadd:(⟨g,o,none⟩:Addr).add i=⟨g,o+i,none⟩:=by unfold Addr.add;split<;>simp_all
  have hcell:w.cell? ⟨g,o+i,none⟩=some cur[o+i]:=by simp [World.cell?,hg,hi]
  have hfro:w.frozen? ⟨g,o+i,none⟩=false:=by
   have:=hz (o+i) (by omega);simp only [World.frozen?,hg]
   simpa using this
  have hst:(store ((⟨g,o,none⟩:Addr).add i) v).run P w=.ok () (w.setRow g (cur.setIfInBounds (o+i) v)):=by
   rw [hadd,run_store P w _ v _ (h1 v (by simp)),hcell]
   simp [hfro,setCell_eq_setRow w g (o+i) cur t fz v hg]
  have ih:=run_storeCells_z P g o t hz rest (i+1) (cur.setIfInBounds (o+i) v) (w.setRow g (cur.setIfInBounds (o+i) v)) (setRow_heap w g cur _ t _ hg) (by simpa using hn) (by simp at hl ⊢;omega) (fun x hx=>h1 x (by simp [hx]));simp only [storeCells,Sem.run_bind,hst,Result.andThen_ok,ih,setRow_setRow]
  congr 3
  have e:=list_seg_step cur.toList (o+i) v rest (by simp at hl ⊢;omega)
  simpa [Array.toList_setIfInBounds,Nat.add_assoc] using e
theorem DoesU.storeObj {t T:TypeId} {x y:Operand} {b i:Nat} {cs news:List Value} {v:Value} (hsz:(P.info? t).map (·.size)=some news.length) (hx:ev σ x=some (.pointer (some ⟨b,i,none⟩))) (hy:ev σ y=some v)
  (hv:v.cells.toList=news) (h1:news.all (·.oneCell')=true) (hs:Sel η (obj b T cs) ζ) (hl:i+news.length≤cs.length) :
  DoesU P (.store t x y) σ g η (obj b T (cs.take i++news++cs.drop (i+news.length))::ζ) :=
 fun o ρ w ho hk hw=>by
  have hw1:=hw.sel hs;have hst:=run_storeCells_at P b i T news 0 cs.toArray w hw1.block (by simpa using hl) (by simpa using h1);refine ⟨w.setRow b (cs.take i++news++cs.drop (i+news.length)).toArray,?_,hw1.setRow⟩;have hc:v.cells.size=news.length:=by rw [← hv];simp
  simp only [Nat.add_zero] at hst
  simp [execOp,ho,hk x _ hx,hk y _ hy,Instr.storeAt,Instr.sureAddr,storeVar,run_sizeOf hsz,hc,hv,hst]
theorem DoesU.store1 {t T:TypeId} {x y:Operand} {b i:Nat} {cs:List Value} {v:Value} (ht:flat1 P t=true) (hx:ev σ x=some (.pointer (some ⟨b,i,none⟩))) (hy:ev σ y=some v)
  (h1:v.oneCell' =true) (hs:Sel η (obj b T cs) ζ) (hl:i<cs.length):DoesU P (.store t x y) σ g η (obj b T (cs.set i v)::ζ):=by
 have hc:v.cells=#[v]:=by cases v<;>first|rfl|cases h1
 have hsz:(P.info? t).map (·.size)=some 1:=by unfold flat1 at ht;simp at ht;simpa using ht.2
 have:=DoesU.storeObj (P:=P) (g:=g) (news:=[v]) hsz hx hy (by rw [hc]) (by simp [h1]) hs (by simp;omega);rw [List.set_eq_take_append_cons_drop,if_pos hl]
 simpa using this
end
end Go.Sp
end
end
section
/- Texts of this proof. -/
namespace Go.Sp
section
variable {P:Program} {σ:List (Nat × Value)} {g:Gr} {η ζ:List SProp}
def elemIs (P:Program) (e k by_:Nat) (z:List Value):Prop:=∃ i zv,P.info? e=some i∧i.zero=some zv∧i.size=k∧i.bytes=by_∧zv.cells.toList=z∧z.length=k
theorem elemIs.mk {e k by_:Nat} {z:List Value} (h:(P.info? e).map (fun i=>(i.zero.map (·.cells.toList),i.size,i.bytes))=some (some z,k,by_)) (hz:z.length=k):elemIs P e k by_ z:=by
 unfold elemIs
 cases hi:P.info? e with
 |none=>rw [hi] at h;cases h
 |some i =>
  rw [hi] at h;simp only [Option.map_some,Option.some.injEq,Prod.mk.injEq,Option.map_eq_some_iff] at h;obtain ⟨⟨zv,h1,h2⟩,h3,h4⟩:=h;exact ⟨i,zv,rfl,h1,h3,h4,h2,hz⟩
def reps (z:List Value):Nat→List Value
 |0=>[]
 |m+1=>z++reps z m
theorem length_reps (z:List Value) (m:Nat):(reps z m).length=m*z.length:=by
 induction m with
 |zero=>simp [reps]
 |succ m ih=>simp [reps,ih,Nat.succ_mul,Nat.add_comm]
theorem reps_get (z:List Value) (m j:Nat) (h:j<m*z.length):(reps z m)[j]?=z[j % z.length]?:=by
 induction m generalizing j with
 |zero=>simp at h
 |succ m ih =>
  simp only [reps]
  rcases Nat.lt_or_ge j z.length with hj|hj
  ·rw [List.getElem?_append_left hj,Nat.mod_eq_of_lt hj]
  ·rw [List.getElem?_append_right hj,ih (j - z.length) (by rw [Nat.succ_mul] at h;omega),Nat.mod_eq_sub_mod hj]
theorem madeCells_reps (z:Array Value) (m:Nat) (hz:0<z.size):(madeCells z (m*z.size)).toList=reps z.toList m:=by
 apply List.ext_getElem?
 intro j
 rcases Nat.lt_or_ge j (m*z.size) with h|h
 ·rw [reps_get _ _ _ (by simpa using h)]
  have hm:=Nat.mod_lt j hz
  simp [madeCells,h,hm]
 ·rw [List.getElem?_eq_none (by simp [madeCells];exact h),List.getElem?_eq_none (by rw [length_reps];simpa using h)]
theorem Holds.ownF {w:World} {b:Nat} {T k m cap:Nat} {cur:Array Value} {cs:List Value} {fz:Nat × Nat} (h:Holds w g (blk b (.cells cur T fz)::η)) (hz:Thawed fz (cap*k)) (h1:m≤cap) (h2:cap≤9223372036854775807)
  (h3:cur.size=cap*k) (h4:cur.toList.take (m*k)=cs):Holds w g (Own (.slice (some ⟨b,0,none⟩) m cap) k T m cs::η) :=
 h.imp fun _=>Sat.cons_imp (fun f hf=>⟨by rw [← h4,List.length_take,Array.length_toList,h3];exact Nat.min_eq_left (Nat.mul_le_mul_right _ h1),.inr ⟨b,cap,cur,rfl,⟨fz,hf,hz⟩,h1,h2,h3,h4⟩⟩) fun _ x=>x
theorem Holds.own {w:World} {b:Nat} {T k m cap:Nat} {cur:Array Value} {cs:List Value} (h:Holds w g (blk b (.cells cur T (0,0))::η)) (h1:m≤cap) (h2:cap≤9223372036854775807)
  (h3:cur.size=cap*k) (h4:cur.toList.take (m*k)=cs):Holds w g (Own (.slice (some ⟨b,0,none⟩) m cap) k T m cs::η) :=
 h.ownF (thawed0 _) h1 h2 h3 h4
theorem run_append_roomZ {P:Program} (w:World) (t ty e:TypeId) (i:TypeInfo) (ht:P.underlying t=some (.slice e)) (hi:P.info? e=some i)
  (g sLen sCap:Nat) (cur:Array Value) {fz:Nat × Nat} (hg:w.heap[g]?=some (.cells cur e fz)) (hz:Thawed fz cur.size)
  (a:Addr) (m c:Nat) (news:List Value) (hl:news.length=m*i.size) (hnews:∀ j u,news[j]?=some u→w.cell? (a.add j)=some u) (h1:∀ u∈news,u.oneCell' =true)
  (hroom:sLen+m≤sCap) (hfit:sLen*i.size+news.length≤cur.size) :
  (Builtin.append_ #[t,t] ty #[.slice (some ⟨g,0,none⟩) sLen sCap,.slice (some a) m c]).run P w =
   .ok (.slice (some ⟨g,0,none⟩) (sLen+m) sCap) (w.setRow g (cur.toList.take (sLen*i.size)++news++cur.toList.drop (sLen*i.size+news.length)).toArray):=by
 have hf:=run_firstCells_some (P:=P) w i.size m a m c news hl hnews;have hst:=run_storeCells_z P g (sLen*i.size) e hz news 0 cur w hg (Nat.le_refl _) (by simpa using hfit) h1;simp only [Nat.add_zero] at hst
 simp [Builtin.append_,run_underlying ht,sizeOf,typeInfo,hi,Builtin.lenOf,hroom,hf,Addr.add_lit,hst]
theorem DoesE.make {t e k by_:Nat} {z:List Value} {x y:Operand} {m:Nat} {kx ky:IntKind} (ht:P.underlying t=some (.slice e)) (he:elemIs P e k by_ z) (hk:0<k)
  (hx:ev σ x=some (.int kx m)) (hy:ev σ y=some (.int ky m)) (hb:by_*m≤281474976710656) (h63:m≤9223372036854775807) :
  DoesE P (.makeSlice t x y) σ g η fun v η' =>η' =Own v k e m (reps z m)::η :=
 fun o ρ w ho hkn hw=>by
  obtain ⟨i,zv,hi,hz,hs,hby,hzc,hzl⟩:=he;subst hs hby hzc;have hb' :(i.bytes:Int)*(m:Int)≤281474976710656:=by rw [← Int.natCast_mul];omega
  have hr:=run_make (P:=P) w t e i zv ht hi hz kx ky m m (by omega) (Int.le_refl _) hb' (by omega);simp only [Int.toNat_natCast] at hr;have hzs:zv.cells.size=i.size:=by simpa using hzl
  refine ⟨.slice (some ⟨w.heap.size,0,none⟩) m m,w.alloc (.cells (madeCells zv.cells (m*i.size)) e),_,rfl,by simp [execOp,ho,hkn x _ hx,hkn y _ hy,hr],(hw.alloc _).own (Nat.le_refl _) (by omega) ?_ ?_⟩
  ·simp [madeCells]
  ·rw [← hzs,madeCells_reps _ _ (by omega),List.take_of_length_le (by rw [length_reps];simp)]
theorem DoesE.make0 {t e k by_:Nat} {z:List Value} {x y:Operand} {c:Nat} {kx ky:IntKind} (ht:P.underlying t=some (.slice e)) (he:elemIs P e k by_ z)
  (hx:ev σ x=some (.int kx 0)) (hy:ev σ y=some (.int ky c)) (hb:by_*c≤281474976710656) (h63:c≤9223372036854775807) :
  DoesE P (.makeSlice t x y) σ g η fun v η' =>η' =Own v k e 0 []::η :=
 fun o ρ w ho hkn hw=>by
  obtain ⟨i,zv,hi,hz,hs,hby,hzc,hzl⟩:=he;subst hs hby hzc;have hb' :(i.bytes:Int)*(c:Int)≤281474976710656:=by rw [← Int.natCast_mul];omega
  have hr:=run_make (P:=P) w t e i zv ht hi hz kx ky 0 c (by omega) (by omega) hb' (by omega);simp only [Int.toNat_natCast,Int.toNat_zero] at hr;refine ⟨.slice (some ⟨w.heap.size,0,none⟩) 0 c,w.alloc (.cells (madeCells zv.cells (c*i.size)) e),_,rfl,by simp [execOp,ho,hkn x _ hx,hkn y _ hy,hr],(hw.alloc _).own (Nat.zero_le _) (by omega) ?_ ?_⟩
  ·simp [madeCells]
  ·simp
def partsOf (σ:List (Nat × Value)):List (Nat × Operand)→Nat→Option (List Value)
 |[],_=>some []
 |(i,x)::r,j=>match Nat.beq i j,ev σ x,partsOf σ r (j+1) with|true,some v,some vs=>some (v::vs)|_,_,_=>none
theorem foldl_set:∀ (us pre mid post:List Value) (o:Nat) (q:Nat) (cells:Array Value),cells.toList=pre++mid++post→mid.length=us.length→pre.length=q+o →
  (us.zipIdx o).foldl (fun cs (x:Value × Nat)=>cs.setIfInBounds (q+x.2) x.1) cells=(pre++us++post).toArray
 |[],pre,mid,post,o,q,cells,hc,hm,_=>by
  have:mid=[]:=List.eq_nil_of_length_eq_zero (by simpa using hm);subst this
  apply Array.ext';simpa using hc
 |u::us,pre,mid,post,o,q,cells,hc,hm,hp=>by
  match mid,hm with
  |m::mid,hm =>
   simp only [List.zipIdx_cons,List.foldl_cons];rw [foldl_set us (pre++[u]) mid post (o+1) q _ ?_ (by simpa using hm) (by simp;omega)]
   ·simp
   ·rw [Array.toList_setIfInBounds,hc,← hp]
    simp
theorem fill_parts {σ:List (Nat × Value)} {ρ:Operand→Value} (hk:Knows σ ρ) (k:Nat):∀ (l:List (Nat × Operand)) (j:Nat) (vs:List Value) (pre rest:List Value) (cells:Array Value),
  partsOf σ l j=some vs→(∀ v∈vs,v.cells.size=k)→cells.toList=pre++rest→pre.length=j*k→rest.length=l.length*k →
  Instr.fill (fun i=>some (i*k,k)) cells (l.map fun p=>(p.1,ρ p.2))=some (pre++(vs.map (·.cells.toList)).flatten).toArray
 |[],j,vs,pre,rest,cells,h,_,hc,_,hr=>by
  cases h
  have:rest=[]:=List.eq_nil_of_length_eq_zero (by simpa using hr);subst this;simp only [List.map_nil,Instr.fill,List.flatten_nil,List.append_nil] at hc ⊢;rw [← hc]
 |(i,x)::l,j,vs,pre,rest,cells,h,hs,hc,hp,hr=>by
  simp only [partsOf] at h
  split at h
  ·rename_i v us hb hv hus
   cases h
   have:=Nat.eq_of_beq_eq_true hb;subst this;have hvk:v.cells.size=k:=hs v (by simp);have e2:(l.length+1)*k=l.length*k+k:=Nat.succ_mul _ _;simp only [List.length_cons] at hr;have hsz:cells.size=i*k+((l.length+1)*k):=by rw [← Array.length_toList,hc,List.length_append,hp,hr]
   have hf:(v.cells.zipIdx.foldl (fun cs (x:Value × Nat)=>cs.setIfInBounds (i*k+x.2) x.1) cells)=(pre++v.cells.toList++rest.drop k).toArray:=by
    rw [← Array.foldl_toList,Array.toList_zipIdx];refine foldl_set v.cells.toList pre (rest.take k) (rest.drop k) 0 (i*k) cells ?_ ?_ (by simpa using hp)
    ·rw [List.append_assoc,List.take_append_drop];exact hc
    ·simp [hvk];omega
   have h2:¬ (i*k+v.cells.size>cells.size):=by omega
   simp only [List.map_cons,Instr.fill,hk x v hv];rw [if_neg (by simp [hvk];omega)];refine (congrArg (fun c=>Instr.fill _ c _) hf).trans ?_;rw [fill_parts hk k l (i+1) us (pre++v.cells.toList) (rest.drop k) _ hus (fun u hu=>hs u (by simp [hu])) (by simp) (by simp [hp,hvk,Nat.succ_mul]) (by simp;omega)]
   simp
  ·cases h
theorem partsOf_length {σ:List (Nat × Value)}:∀ (l:List (Nat × Operand)) (j:Nat) (vs:List Value),partsOf σ l j=some vs→vs.length=l.length
 |[],_,_,h=>by cases h;rfl
 |(q,x)::l,j,vs,h=>by
  simp only [partsOf] at h
  split at h
  ·rename_i v us _ _ hus;cases h;simp [partsOf_length l _ _ hus]
  ·cases h
theorem length_cellsOf {k:Nat}:∀ vs:List Value,(∀ v∈vs,v.cells.size=k)→((vs.map (·.cells.toList)).flatten).length=vs.length*k
 |[],_=>by simp
 |v::vs,h=>by
  have:=length_cellsOf vs (fun u hu=>h u (by simp [hu]))
  simp [this,h v (by simp),Nat.succ_mul,Nat.add_comm]
theorem DoesE.lit {t e k by_:Nat} {z:List Value} {parts:Array (Nat × Operand)} {vs:List Value} {len:Nat} (ht:P.underlying t=some (.slice e)) (he:elemIs P e k by_ z) (hk:0<k)
  (hp:partsOf σ parts.toList 0=some vs) (hlen:parts.toList.length=len) (hvs:vs.all (fun v=>Nat.beq v.cells.size k)=true) (h24:len*k≤16777216) :
  DoesE P (.buildSlice t len parts) σ g η fun v η' =>η' =Own v k e len (vs.map (·.cells.toList)).flatten::η :=
 fun o ρ w ho hkn hw=>by
  obtain ⟨i,zv,hi,hz,hs,hby,hzc,hzl⟩:=he;subst hs hzc;have hzs:zv.cells.size=i.size:=by simpa using hzl
  have hv' :∀ v∈vs,v.cells.size=i.size:=fun v hv=>Nat.eq_of_beq_eq_true (List.all_eq_true.1 hvs v hv);have h24' :¬ (16777216<len*i.size):=by omega
  have hvl:((vs.map (·.cells.toList)).flatten).length=len*i.size:=by rw [length_cellsOf vs hv',partsOf_length _ _ _ hp,hlen]
  have hmap:(parts.map fun (p:Nat × Operand)=>(p.1,ρ p.2)).toList=parts.toList.map fun p=>(p.1,ρ p.2):=Array.toList_map;have hsz:(sizeOf e).run P w=.ok i.size w:=run_sizeOf (by simp [hi]) w;have hrun:(Instr.buildSlice t len (parts.map fun (p:Nat × Operand)=>(p.1,ρ p.2))).run P w =
    .ok (.slice (some ⟨w.heap.size,0,none⟩) len len) (w.alloc (.cells (vs.map (·.cells.toList)).flatten.toArray e)):=by
   have hf:∀ c:Array Value,c.size=len*i.size→Instr.fill (fun j=>some (j*i.size,i.size)) c (parts.map fun (p:Nat × Operand)=>(p.1,ρ p.2)).toList=some ((vs.map (·.cells.toList)).flatten).toArray:=fun c hc=>by
    rw [hmap];exact fill_parts hkn i.size parts.toList 0 vs [] c.toList c hp hv' rfl (by simp) (by simp [hc,← hlen])
   by_cases h0:len*i.size=0
   ·simp only [Instr.buildSlice,Sem.run_bind,run_underlying ht,Result.andThen_ok,hsz,h0,if_true,Sem.run_pure,Sem.run_ite]
    rw [hf _ (by simp [h0])]
    simp [newRow]
   ·simp only [Instr.buildSlice,Sem.run_bind,run_underlying ht,Result.andThen_ok,hsz,h24',if_false,h0,Sem.run_pure,Sem.run_ite,zeroValue,typeInfo,run_program,hi,hz]
    rw [hf _ (by simp)]
    simp [newRow]
  refine ⟨.slice (some ⟨w.heap.size,0,none⟩) len len,w.alloc (.cells (vs.map (·.cells.toList)).flatten.toArray e),_,rfl,?_,(hw.alloc _).own (Nat.le_refl _) ?_ ?_ ?_⟩
  ·simp only [execOp,ho,Sem.run_bind]
   have:(parts.map fun x=>match x with|(i,x)=>(i,ρ x))=parts.map fun (p:Nat × Operand)=>(p.1,ρ p.2):=rfl;rw [this,hrun];rfl
  ·have:len≤len*i.size:=Nat.le_mul_of_pos_right _ hk
   omega
  ·simpa using hvl
  ·exact List.take_of_length_le (by simpa using Nat.le_of_eq hvl)
theorem run_append_args {o:Oper} {x y:Operand} {ts:Array TypeId} {ρ:Operand→Value} (ho:o.op=.call ⟨.builtin .append,#[x,y],ts⟩) {w w' :World} {v:Value}
  (h:(Builtin.append_ ts o.type #[ρ x,ρ y]).run P w=.ok v w'):(execOp ρ o).run P w=.ok (.value v) w' :=by
 simp [execOp,ho,resolve,invoke,builtin,h]
theorem DoesE.append {t e k by_:Nat} {z:List Value} {x y:Operand} {v u:Value} {m q:Nat} {cs news:List Value} (ht:P.underlying t=some (.slice e)) (he:elemIs P e k by_ z) (hk:0<k)
  (hx:ev σ x=some v) (hy:ev σ y=some u) (hs:Sel η (Own v k e m cs) ζ) (hu:Sl g.h u k q news) (h1:∀ c∈news,c.oneCell' =true) (hb:(m+q)*by_≤140737488355328) (h63:m+q≤9223372036854775807) :
  DoesE P (.call ⟨.builtin .append,#[x,y],#[t,t]⟩) σ g η fun v' η' =>η' =Own v' k e (m+q) (cs++news)::ζ :=
 fun o ρ w ho hkn hw=>by
  obtain ⟨i,zv,hi,hz,hsz,hby,hzc,hzl⟩:=he;subst hsz hby hzc;have hzs:zv.cells.size=i.size:=by simpa using hzl
  obtain ⟨a,cap,rfl,c1,c2,c3,c4⟩:=hu;have hw1:=hw.sel hs
  cases a with
  |none =>
   have hq:news=[]:=by
    cases news with
    |nil=>rfl
    |cons c r=>obtain ⟨p,hp,_⟩:=c4 0 (by simp);cases hp
   subst hq;have hq0:q=0:=by
    have:q*i.size=0:=by rw [← c3];rfl
    rcases Nat.mul_eq_zero.1 this with h|h<;>omega
   subst hq0;have hv:∃ a cap,v=.slice a m cap∧m≤cap:=by
    obtain ⟨_,_,_,_,_,_,_,_,_,_,_,_,hA,_⟩:=hw1
    rcases hA with ⟨_,⟨rfl,rfl⟩|⟨b,cap,cur,rfl,_,h1,_⟩⟩
    ·exact ⟨none,0,rfl,Nat.le_refl _⟩
    ·exact ⟨_,cap,rfl,h1⟩
   obtain ⟨a,cp,rfl,hle⟩:=hv;refine ⟨.slice a m cp,w,_,rfl,run_append_args ho ?_,by simpa using hw1⟩;rw [hkn x _ hx,hkn y _ hy]
   cases a<;>simp [Builtin.append_,run_underlying ht,sizeOf,typeInfo,hi,Builtin.lenOf,Builtin.firstCells,storeCells,hle]
  |some a =>
   have hnews:∀ j u,news[j]?=some u→w.cell? (a.add j)=some u:=fun j u hj=>by
    obtain ⟨hjl,rfl⟩:=List.getElem?_eq_some_iff.1 hj;obtain ⟨p,hp,hc⟩:=c4 j hjl
    cases hp
    exact Fr.cell_mono hw.ground hc
   have hnx:=hkn x _ hx;have hny:=hkn y _ hy;have fresh:∀ (old:Nat),old<m+q→cs.length=m*i.size→Holds (w.drew.alloc (.cells (cs.toArray++news.toArray++Builtin.zeroCells zv.cells (grownCap w (m+q) old e - (m+q))) e)) g
     (Own (.slice (some ⟨w.heap.size,0,none⟩) (m+q) (grownCap w (m+q) old e)) i.size e (m+q) (cs++news)::ζ):=by
    intro old ho hcl
    have hge:=grownCap_ge w (m+q) old e;have hcm:=grownCap_le_maxLen w (m+q) old e (by simpa [maxLen] using h63);have hlen:(cs++news).length=(m+q)*i.size:=by rw [List.length_append,hcl,c3,Nat.add_mul]
    refine (((hw1.drop).drewN _ (Nat.le_add_right _ _)).alloc _).own hge (by simpa [maxLen] using hcm) ?_ ?_
    ·simp only [Array.size_append,List.size_toArray,size_zeroCells,hzs,hcl,c3,← Nat.add_mul]
     congr 1
     omega
    ·simp only [Array.toList_append,List.append_assoc]
     rw [← List.append_assoc,← hlen];exact List.take_left
   obtain ⟨hA,hA'⟩:cs.length=m*i.size∧((v=.slice none 0 0∧m=0)∨∃ b cap cur,v=.slice (some ⟨b,0,none⟩) m cap∧m≤cap∧cap≤9223372036854775807∧cur.size=cap*i.size∧cur.toList.take (m*i.size)=cs ∧
     ∃ fz,Thawed fz (cap*i.size)∧Holds w g (blk b (.cells cur e fz)::ζ)):=by
    obtain ⟨p1,p2,p3,K,hd,s1,s2,k1,k2,kd,t1,t2,⟨hl,hA⟩,hr⟩:=hw1;refine ⟨hl,hA.imp id ?_⟩;rintro ⟨b,cap,cur,rfl,⟨fz,hbk,hz⟩,h1,h2,h3,h4⟩;exact ⟨b,cap,cur,rfl,h1,h2,h3,h4,fz,hz,p1,p2,p3,K,hd,s1,s2,k1,k2,kd,t1,t2,hbk,hr⟩
   rcases hA' with ⟨rfl,rfl⟩|⟨b,cp,cur,rfl,h1',h2',h3',h4',fz,hfz,hwb⟩
   ·have hcs:cs=[]:=List.eq_nil_of_length_eq_zero (by simpa using hA)
    subst hcs
    by_cases hq:q=0
    ·subst hq
     have hn:news=[]:=List.eq_nil_of_length_eq_zero (by simpa using c3);subst hn;refine ⟨.slice none 0 0,w,_,rfl,run_append_args ho ?_,by simpa using hw1⟩;rw [hnx,hny]
     simp [Builtin.append_,run_underlying ht,sizeOf,typeInfo,hi,Builtin.lenOf,Builtin.firstCells,loadCells,loadCellsFrom]
    ·have hr:=run_append_nil (P:=P) w t o.type e i zv ht hi hz a q cap news c3 hnews (by omega) (by omega) (by have hb:=hb;simp only [Nat.zero_add] at hb;omega)
     have hf:=fresh 0 (by omega) (by simp);simp only [Nat.zero_add,List.nil_append,Array.empty_append] at hf ⊢;exact ⟨_,_,_,rfl,run_append_args ho (by rw [hnx,hny];exact hr),hf⟩
   ·by_cases hroom:m+q≤cp
    ·have hfit:m*i.size+news.length≤cur.size:=by rw [c3,h3',← Nat.add_mul];exact Nat.mul_le_mul_right _ hroom
     have hr:=run_append_roomZ (P:=P) w t o.type e i ht hi b m cp cur hwb.block (by rw [h3'];exact hfz) a q cap news c3 hnews h1 hroom hfit;refine ⟨_,_,_,rfl,run_append_args ho (by rw [hnx,hny];exact hr),hwb.setRow.ownF hfz hroom h2' ?_ ?_⟩
     ·simp only [List.size_toArray,List.length_append,List.length_take,List.length_drop,Array.length_toList]
      omega
     ·have hlen:(cs++news).length=(m+q)*i.size:=by rw [List.length_append,hA,c3,Nat.add_mul]
      rw [h4',← hlen];exact List.take_left
    ·have holds:∀ j u,cs[j]?=some u→w.cell? ((⟨b,0,none⟩:Addr).add j)=some u:=fun j u hj=>by
      have hb0:=hwb.block;rw [add_lit,Nat.zero_add];have hjl:=(List.getElem?_eq_some_iff.1 hj).1;rw [← h4',List.getElem?_take_of_lt (by omega)] at hj
      simpa [World.cell?,hb0] using hj
     have hr:=run_append_grow (P:=P) w t o.type e i zv ht hi hz ⟨b,0,none⟩ m cp cs hA holds a q cap news c3 hnews (by omega) (by omega) (growslice_fits (by omega) hb);exact ⟨_,_,_,rfl,run_append_args ho (by rw [hnx,hny];exact hr),fresh cp (by omega) hA⟩
end
end Go.Sp
end
end
