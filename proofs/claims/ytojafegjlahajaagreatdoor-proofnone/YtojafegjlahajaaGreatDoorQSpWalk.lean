/- Texts of this proof, one behind the other. -/
import Derived.WalkKit
import Derived.Defers
import Derived.Recover
import Derived.Orders
import Derived.RangeFuncLeaves
set_option linter.unusedSectionVars false
section
/- Texts of this proof. -/
namespace Go.Sp
abbrev Fr:=Nat→Option Obj
namespace Fr
def sub (h k:Fr):Prop:=∀ i o,h i=some o→k i=some o
def disj (h k:Fr):Prop:=∀ i,h i=none∨k i=none
def add (h k:Fr):Fr:=fun i=>(h i).or (k i)
def one (b:Nat) (o:Obj):Fr:=fun i=>if i=b then some o else none
def emp:Fr:=fun _=>none
theorem sub_refl (h:Fr):h.sub h:=fun _ _ x=>x
theorem sub_trans {a b c:Fr} (h:a.sub b) (k:b.sub c):a.sub c:=fun i o x=>k i o (h i o x)
theorem disj_symm {a b:Fr} (h:a.disj b):b.disj a:=fun i=>(h i).symm
theorem disj_sub {a b a' b' :Fr} (h:a.disj b) (ha:a'.sub a) (hb:b'.sub b):a'.disj b' :=fun i=>by
 rcases h i with x|x
 ·left;cases hx:a' i with
  |none=>rfl
  |some o=>rw [ha i o hx] at x;cases x
 ·right;cases hx:b' i with
  |none=>rfl
  |some o=>rw [hb i o hx] at x;cases x
theorem sub_add_left (a b:Fr):a.sub (a.add b):=fun i o h=>by simp [add,h]
theorem sub_add_right {a b:Fr} (hd:a.disj b):b.sub (a.add b):=fun i o h=>by
 rcases hd i with x|x
 ·simp [add,x,h]
 ·rw [h] at x;cases x
theorem add_sub {a b c:Fr} (ha:a.sub c) (hb:b.sub c):(a.add b).sub c:=fun i o h=>by
 simp only [add] at h
 cases hx:a i with
 |none=>rw [hx] at h;exact hb i o (by simpa using h)
 |some x=>rw [hx] at h;exact ha i o (by rw [hx];simpa using h)
theorem disj_add {a b c:Fr} (h1:a.disj c) (h2:b.disj c):(a.add b).disj c:=fun i=>by
 rcases h1 i with x|x
 ·rcases h2 i with y|y
  ·left;simp [add,x,y]
  ·exact .inr y
 ·exact .inr x
theorem disj_add_right {a b c:Fr} (h1:c.disj a) (h2:c.disj b):c.disj (a.add b):=disj_symm (disj_add (disj_symm h1) (disj_symm h2))
theorem emp_disj (a:Fr):emp.disj a:=fun _=>.inl rfl
theorem emp_sub (a:Fr):emp.sub a:=fun _ _ h=>by cases h
end Fr
abbrev SProp:=Fr→Prop
def Sat:List SProp→Fr→Prop
 |[],_=>True
 |A::η,h=>∃ h1 h2:Fr,h1.disj h2∧h1.sub h∧h2.sub h∧A h1∧Sat η h2
theorem Sat.mono:∀ {η:List SProp} {h k:Fr},h.sub k→Sat η h→Sat η k
 |[],_,_,_,_=>trivial
 |_::_,_,_,hs,⟨h1,h2,hd,a,b,x,y⟩=>⟨h1,h2,hd,Fr.sub_trans a hs,Fr.sub_trans b hs,x,y⟩
theorem Sat.cons {A:SProp} {η:List SProp} {h1 h2:Fr} (hd:h1.disj h2) (x:A h1) (y:Sat η h2):Sat (A::η) (h1.add h2) :=
 ⟨h1,h2,hd,Fr.sub_add_left _ _,Fr.sub_add_right hd,x,y⟩
theorem Sat.append:∀ {η ζ:List SProp} {h1 h2:Fr},h1.disj h2→Sat η h1→Sat ζ h2→Sat (η++ζ) (h1.add h2)
 |[],_,_,_,hd,_,y=>Sat.mono (Fr.sub_add_right hd) y
 |_::_,_,h1,h2,hd,⟨k1,k2,kd,s1,s2,x,y⟩,z=>by
  have d2:k2.disj h2:=Fr.disj_sub hd s2 (Fr.sub_refl _);refine ⟨k1,k2.add h2,Fr.disj_add_right kd (Fr.disj_sub hd s1 (Fr.sub_refl _)),Fr.sub_trans s1 (Fr.sub_add_left _ _),?_,x,Sat.append d2 y z⟩;exact Fr.add_sub (Fr.sub_trans s2 (Fr.sub_add_left _ _)) (Fr.sub_add_right hd)
theorem Sat.split:∀ {η ζ:List SProp} {h:Fr},Sat (η++ζ) h→∃ h1 h2:Fr,h1.disj h2∧h1.sub h∧h2.sub h∧Sat η h1∧Sat ζ h2
 |[],_,h,x=>⟨Fr.emp,h,Fr.emp_disj _,Fr.emp_sub _,Fr.sub_refl _,trivial,x⟩
 |_::η,ζ,h,⟨k1,k2,kd,s1,s2,x,y⟩=>by
  obtain ⟨m1,m2,md,t1,t2,p,q⟩:=Sat.split y;have d1:k1.disj m1:=Fr.disj_sub kd (Fr.sub_refl _) t1;have d2:k1.disj m2:=Fr.disj_sub kd (Fr.sub_refl _) t2;exact ⟨k1.add m1,m2,Fr.disj_add d2 md,Fr.add_sub s1 (Fr.sub_trans t1 s2),Fr.sub_trans t2 s2,Sat.cons d1 x p,q⟩
theorem Sat.swap {A B:SProp} {η:List SProp} {h:Fr}:Sat (A::B::η) h→Sat (B::A::η) h:=by
 rintro ⟨h1,h2,hd,s1,s2,x,k1,k2,kd,t1,t2,y,z⟩;have d1:h1.disj k1:=Fr.disj_sub hd (Fr.sub_refl _) t1;have d2:h1.disj k2:=Fr.disj_sub hd (Fr.sub_refl _) t2;exact ⟨k1,h1.add k2,Fr.disj_add_right (Fr.disj_symm d1) kd,Fr.sub_trans t1 s2,Fr.add_sub s1 (Fr.sub_trans t2 s2),y,Sat.cons d2 x z⟩
theorem Sat.cons_imp {A B:SProp} {η ζ:List SProp} {h:Fr} (hab:∀ h,A h→B h) (hs:∀ h,Sat η h→Sat ζ h):Sat (A::η) h→Sat (B::ζ) h :=
 fun ⟨h1,h2,hd,s1,s2,x,y⟩=>⟨h1,h2,hd,s1,s2,hab _ x,hs _ y⟩
theorem Sat.perm {η ζ:List SProp} (p:η.Perm ζ):∀ {h:Fr},Sat η h→Sat ζ h:=by
 induction p with
 |nil=>exact fun x=>x
 |cons A _ ih=>exact fun x=>Sat.cons_imp (fun _ y=>y) (fun _ y=>ih y) x
 |swap A B _=>exact fun x=>Sat.swap x
 |trans _ _ ih1 ih2=>exact fun x=>ih2 (ih1 x)
inductive Sel:List SProp→SProp→List SProp→Prop
 |here {A:SProp} {η:List SProp}:Sel (A::η) A η
 |there {A B:SProp} {η ζ:List SProp}:Sel η A ζ→Sel (B::η) A (B::ζ)
theorem Sel.perm {η ζ:List SProp} {A:SProp} (s:Sel η A ζ):η.Perm (A::ζ):=by
 induction s with
 |here=>exact .refl _
 |there _ ih=>exact (List.Perm.cons _ ih).trans (.swap _ _ _)
structure Gr where
 h:Fr
 os:Os
 tape:Nat→Question→Nat
 out:Array (Nat × ByteArray)
 dr:Nat
def Gr.add (g:Gr) (k:Fr):Gr:={ g with h:=g.h.add k }
end Go.Sp
namespace Go
def World.fr (w:World):Sp.Fr:=fun i=>w.heap[i]?
def World.gr (w:World):Sp.Gr:=⟨w.fr,w.os,w.tape,w.output,w.drawn⟩
end Go
namespace Go.Sp
def Holds (w:World) (g:Gr) (η:List SProp):Prop :=
 w.os=g.os∧w.tape=g.tape∧(w.output=g.out∧g.dr≤w.drawn)∧∃ h:Fr,g.h.disj h∧g.h.sub w.fr∧h.sub w.fr∧Sat η h
theorem Holds.perm {w:World} {g:Gr} {η ζ:List SProp} (h:Holds w g η) (p:η.Perm ζ):Holds w g ζ :=
 ⟨h.1,h.2.1,h.2.2.1,let ⟨k,a,b,c,d⟩:=h.2.2.2;⟨k,a,b,c,d.perm p⟩⟩
theorem Holds.sel {w:World} {g:Gr} {η ζ:List SProp} {A:SProp} (h:Holds w g η) (s:Sel η A ζ):Holds w g (A::ζ):=h.perm s.perm
theorem Holds.imp {w:World} {g:Gr} {η ζ:List SProp} (h:Holds w g η) (hs:∀ k,Sat η k→Sat ζ k):Holds w g ζ :=
 ⟨h.1,h.2.1,h.2.2.1,let ⟨k,a,b,c,d⟩:=h.2.2.2;⟨k,a,b,c,hs _ d⟩⟩
theorem Holds.entail {w:World} {g:Gr} {η ζ:List SProp} {A:SProp} (h:Holds w g (A::η)) (hs:∀ k,A k→Sat ζ k):Holds w g (ζ++η) :=
 h.imp fun _ ⟨_,_,hd,s1,s2,x,y⟩=>Sat.mono (Fr.add_sub s1 s2) (Sat.append hd (hs _ x) y)
theorem Holds.drop {w:World} {g:Gr} {η:List SProp} {A:SProp} (h:Holds w g (A::η)):Holds w g η :=
 h.imp fun _ ⟨_,_,_,_,s2,_,y⟩=>Sat.mono s2 y
theorem Holds.drop_all {w:World} {g:Gr} {η:List SProp} (h:Holds w g η):Holds w g []:=h.imp fun _ _=>trivial
theorem Holds.freeze {w:World} {g:Gr} {η:List SProp} {A:SProp} (h:Holds w g (A::η)) :
  ∃ k:Fr,A k∧g.h.disj k∧Holds w (g.add k) η:=by
 obtain ⟨a,b,c,k,hd,s1,s2,k1,k2,kd,t1,t2,x,y⟩:=h;refine ⟨k1,x,Fr.disj_sub hd (Fr.sub_refl _) t1,a,b,c,k2,?_,Fr.add_sub s1 (Fr.sub_trans t1 s2),Fr.sub_trans t2 s2,y⟩;exact Fr.disj_add (Fr.disj_sub hd (Fr.sub_refl _) t2) kd
theorem Holds.thaw {w:World} {g:Gr} {η:List SProp} {A:SProp} {k:Fr} (h:Holds w (g.add k) η) (x:A k) (hd:g.h.disj k) :
  Holds w g (A::η):=by
 obtain ⟨a,b,c,m,md,s1,s2,y⟩:=h;have d1:k.disj m:=Fr.disj_sub md (Fr.sub_add_right hd) (Fr.sub_refl _);have d2:g.h.disj m:=Fr.disj_sub md (Fr.sub_add_left _ _) (Fr.sub_refl _);exact ⟨a,b,c,k.add m,Fr.disj_add_right hd d2,Fr.sub_trans (Fr.sub_add_left _ _) s1,
  Fr.add_sub (Fr.sub_trans (Fr.sub_add_right hd) s1) s2,Sat.cons d1 x y⟩
theorem Holds.freezeAll {w:World} {g:Gr} {η ζ:List SProp} (h:Holds w g (η++ζ)) :
  ∃ k:Fr,Sat ζ k∧g.h.disj k∧Holds w (g.add k) η:=by
 obtain ⟨a,b,c,k,hd,s1,s2,y⟩:=h;obtain ⟨k1,k2,kd,t1,t2,p,q⟩:=Sat.split y;refine ⟨k2,q,Fr.disj_sub hd (Fr.sub_refl _) t2,a,b,c,k1,?_,Fr.add_sub s1 (Fr.sub_trans t2 s2),Fr.sub_trans t1 s2,p⟩;exact Fr.disj_add (Fr.disj_sub hd (Fr.sub_refl _) t1) (Fr.disj_symm kd)
theorem Holds.thawAll {w:World} {g:Gr} {η ζ:List SProp} {k:Fr} (h:Holds w (g.add k) η) (x:Sat ζ k) (hd:g.h.disj k):Holds w g (η++ζ):=by
 obtain ⟨a,b,c,m,md,s1,s2,y⟩:=h;have d1:k.disj m:=Fr.disj_sub md (Fr.sub_add_right hd) (Fr.sub_refl _);have d2:g.h.disj m:=Fr.disj_sub md (Fr.sub_add_left _ _) (Fr.sub_refl _);refine ⟨a,b,c,m.add k,Fr.disj_add_right d2 hd,Fr.sub_trans (Fr.sub_add_left _ _) s1,Fr.add_sub s2 (Fr.sub_trans (Fr.sub_add_right hd) s1),Sat.append (Fr.disj_symm d1) y x⟩
def blk (b:Nat) (o:Obj):SProp:=fun h=>h b=some o
theorem Holds.ground {w:World} {g:Gr} {η:List SProp} (h:Holds w g η):g.h.sub w.fr:=h.2.2.2.elim fun _ x=>x.2.1
theorem Holds.block {w:World} {g:Gr} {η:List SProp} {b:Nat} {o:Obj} (h:Holds w g (blk b o::η)):w.heap[b]?=some o:=by
 obtain ⟨_,_,_,k,_,_,s2,k1,_,_,t1,_,x,_⟩:=h;exact s2 b o (t1 b o x)
theorem Holds.drewN {w:World} {g:Gr} {η:List SProp} (h:Holds w g η) (n:Nat) (hn:w.drawn≤n):Holds { w with drawn:=n } g η:=⟨h.1,h.2.1,⟨h.2.2.1.1,Nat.le_trans h.2.2.1.2 hn⟩,h.2.2.2⟩
theorem Holds.alloc {w:World} {g:Gr} {η:List SProp} (h:Holds w g η) (o:Obj):Holds (w.alloc o) g (blk w.heap.size o::η):=by
 obtain ⟨a,b,c,k,hd,s1,s2,y⟩:=h;have hlt:∀ {f:Fr} {x:Obj},f.sub w.fr→f w.heap.size=some x→False:=fun hs hx=>by
  have:=hs _ _ hx
  simp [World.fr] at this
 have hn:∀ {f:Fr},f.sub w.fr→f w.heap.size=none:=fun {f} hs=>by
  cases hx:f w.heap.size with
  |none=>rfl
  |some x=>exact (hlt hs hx).elim
 have up:w.fr.sub (w.alloc o).fr:=fun i x hx=>by
  show (w.heap.push o)[i]?=some x
  have hx:w.heap[i]?=some x:=hx;have:i<w.heap.size:=by
   rcases Nat.lt_or_ge i w.heap.size with q|q
   ·exact q
   ·simp [Array.getElem?_eq_none q] at hx
  rw [Array.getElem?_push_lt this];rw [Array.getElem?_eq_getElem this] at hx;exact hx
 have dn:∀ {f:Fr},f.sub w.fr→f.disj (Fr.one w.heap.size o):=fun {f} hs i=>by
  by_cases hi:i=w.heap.size
  ·left;rw [hi];exact hn hs
  ·right;simp [Fr.one,hi]
 refine ⟨a,b,c,(Fr.one w.heap.size o).add k,Fr.disj_add_right (dn s1) hd,Fr.sub_trans s1 up,Fr.add_sub ?_ (Fr.sub_trans s2 up),Sat.cons (Fr.disj_symm (dn s2)) ?_ y⟩
 ·intro i x hx
  simp only [Fr.one] at hx
  split at hx
  ·rename_i hi;subst hi;cases hx;show (w.heap.push o)[w.heap.size]?=some o;simp
  ·cases hx
 ·simp [blk,Fr.one]
theorem Holds.setBlock {w w' :World} {g:Gr} {η:List SProp} {b:Nat} {o o' :Obj} (h:Holds w g (blk b o::η))
  (hb:w'.heap[b]?=some o') (hne:∀ i,i≠b→w'.heap[i]?=w.heap[i]?) (h1:w'.os=w.os) (h2:w'.tape=w.tape) (h3:w'.output=w.output) (h4:w.drawn≤w'.drawn:=by exact Nat.le_refl _) :
  Holds w' g (blk b o' ::η):=by
 obtain ⟨p,q,r,k,hd,s1,s2,k1,k2,kd,t1,t2,x,y⟩:=h;have x' :k1 b=some o:=x;have gb:g.h b=none:=by
  rcases hd b with z|z
  ·exact z
  ·rw [t1 b o x'] at z;cases z
 have kb:k2 b=none:=by
  rcases kd b with z|z
  ·rw [x'] at z;cases z
  ·exact z
 have keep:∀ {f:Fr},f b=none→f.sub w.fr→f.sub w'.fr:=fun {f} hf hs i z hz=>by
  have:i≠b:=by rintro rfl;rw [hf] at hz;cases hz
  show w'.heap[i]?=_
  rw [hne i this];exact hs i z hz
 have od:∀ {f:Fr},f b=none→f.disj (Fr.one b o'):=fun {f} hf i=>by
  by_cases hi:i=b
  ·left;rw [hi];exact hf
  ·right;simp [Fr.one,hi]
 refine ⟨h1.trans p,h2.trans q,⟨h3.trans r.1,Nat.le_trans r.2 h4⟩,(Fr.one b o').add k2,Fr.disj_add_right (od gb) (Fr.disj_sub hd (Fr.sub_refl _) t2),keep gb s1,Fr.add_sub ?_ (keep kb (Fr.sub_trans t2 s2)),
  Sat.cons (Fr.disj_symm (od kb)) ?_ y⟩
 ·intro i z hz
  simp only [Fr.one] at hz
  split at hz
  ·rename_i hi;subst hi;cases hz;exact hb
  ·cases hz
 ·simp [blk,Fr.one]
theorem Holds.of_world (w:World):Holds w w.gr []:=⟨rfl,rfl,⟨rfl,Nat.le_refl _⟩,Fr.emp,Fr.disj_symm (Fr.emp_disj _),Fr.sub_refl _,Fr.emp_sub _,trivial⟩
theorem Holds.below {w w' :World} (h:Holds w' w.gr []):RowKit.Below w.heap.size w w' :=by
 obtain ⟨a,b,⟨c,_⟩,_,_,s1,_,_⟩:=h;have hb:∀ i,i<w.heap.size→w'.heap[i]?=w.heap[i]?:=fun i hi=>by
  have:=s1 i w.heap[i] (by simp [World.gr,World.fr,hi]);rw [Array.getElem?_eq_getElem hi];exact this
 refine ⟨a,b,c,?_,hb⟩
 rcases Nat.eq_zero_or_pos w.heap.size with hz|hz
 ·omega
 ·rcases Nat.lt_or_ge (w.heap.size - 1) w'.heap.size with q|q
  ·omega
  ·have:=hb (w.heap.size - 1) (by omega)
   rw [Array.getElem?_eq_none q,Array.getElem?_eq_getElem (by omega)] at this
   cases this
theorem zh {A:SProp} {η:List SProp}:Sel (A::η) A η:=.here
theorem zt {A B:SProp} {η ζ:List SProp} (h:Sel η A ζ):Sel (B::η) A (B::ζ):=.there h
theorem zx1 {α:Type} {a:α} {as bs:List α}:a::as++bs=a::(as++bs):=rfl
theorem zx2 {α:Type} {as:List α}:[]++as=as:=rfl
theorem zx3 {α:Type} {as:List α}:as++[]=as:=List.append_nil as
end Go.Sp
end
section
/- Texts of this proof. -/
namespace Go.Sp
def Wd (ro:Option Nat):Fence:={ fn:=fun _=>True,depth:=none,alive:=false,round:=ro }
theorem room_wd (ro:Option Nat) (n:Nat):(Wd ro).room n:=fun _ h=>by cases h
def Runs (ro:Option Nat) (P:Program) (todo:List Item) (Q:Exit→Act→World→Prop) (a:Act) (w:World):Prop :=
 ∀ (b:Frame) (cs:List Frame),b.roundOf=ro→(∃ fn,P.funcs[b.fn]?=some fn)→∃ e a' w',Q e a' w' ∧ArrivesIn (Machine.fenced P Fence.wide) P (lone (b.atR a todo) cs w) b [] cs e a' w'
section runs
variable {ro:Option Nat} {P:Program} {Q:Exit→Act→World→Prop} {a:Act} {w:World} {k:List Item}
theorem Runs.step {todo todo' :List Item} {a' :Act} {w' :World} (hs:∀ (b:Frame) (cs:List Frame),step P (lone (b.atR a todo) cs w)=.next (lone (b.atR a' todo') cs w'))
  (h:Runs ro P todo' Q a' w'):Runs ro P todo Q a w:=fun b cs hb hf =>
 let ⟨e,a',w',q,r⟩:=h b cs hb hf;⟨e,a',w',q,.of_steps (.one (fenced_wide P _) (hs b cs)) r⟩
theorem Runs.nil (h:Q .normal a w):Runs ro P [] Q a w:=fun _ _ _ _=>⟨.normal,a,w,h,StepsIn.refl _⟩
theorem Runs.ret (h:Q .ret a w):Runs ro P (.code .ret::k) Q a w:=fun _ _ _ _=>⟨.ret,a,w,h,fun hb=>⟨_,.one (fenced_wide P _) (stepR_ret hb)⟩,fun _=>⟨k,StepsIn.refl _⟩⟩
def QK (ro:Option Nat) (P:Program) (k:List Item) (Q:Exit→Act→World→Prop):Exit→Act→World→Prop
 |.normal,a,w=>Runs ro P k Q a w
 |.panic ch,a,w=>Q (.panic ch) a w
 |.outgrown,a,w=>Q .outgrown a w
 |_,_,_=>False
theorem Runs.ops {ops:Array Oper} {l:List Nat} (h:wpOpsIn (Wd ro) 0 P ops (QK ro P k Q) l a w):Runs ro P (.inRegion ops l::k) Q a w:=by
 intro b cs hb hf
 obtain ⟨e,a',w',hq,harr⟩:=wp_opsIn l a w h b k cs hb trivial (room_wd _ _);have harr:ArrivesIn (Machine.fenced P Fence.wide) P (lone (b.atR a (.inRegion ops l::k)) cs w) b k cs e a' w' :=harr
 cases e with
 |normal =>
  obtain ⟨e,a'',w'',q,r⟩:=hq b cs hb hf;exact ⟨e,a'',w'',q,.of_steps harr r⟩
 |panic ch=>exact ⟨_,a',w',hq,harr⟩
 |outgrown=>exact ⟨.outgrown,a',w',hq,harr⟩
 |exit _=>exact hq.elim
 |goto _=>exact hq.elim
 |ret=>exact hq.elim
theorem Runs.opsN {ops:Array Oper} {l:List Nat} (h:wpOps P ops (QK none P k Q) l a w):Runs none P (.inRegion ops l::k) Q a w:=by
 intro b cs hb hf
 obtain ⟨e,a',w',hq,harr⟩:=wp_ops l a w h b k cs;have harr:=(arrivesIn_iff (I:=Machine.fenced P Fence.wide) (fun _ _=>stepsIn_wide) hb).2 harr;rw [← Frame.atR_of_none hb] at harr
 cases e with
 |normal =>
  obtain ⟨e,a'',w'',q,r⟩:=hq b cs hb hf;exact ⟨e,a'',w'',q,.of_steps harr r⟩
 |panic ch=>exact ⟨_,a',w',hq,harr⟩
 |outgrown=>exact ⟨.outgrown,a',w',hq,harr⟩
 |exit _=>exact hq.elim
 |goto _=>exact hq.elim
 |ret=>exact hq.elim
def Lv (P:Program) (fn:Func) (tmps:Array Value) (R:Ending→World→Prop):List Deferred→FrameMode→World→Prop
 |[],u,w=>Leaves P fn tmps R [] u w
 |d::ds,u,w=>u≠.run∧((∃ r w',d.target=.collected r∧(Instr.takeDeferred r).run P w=.ok [] w' ∧Lv P fn tmps R ds u w') ∨
   ∃ fv cap f args,d.target=.fn fv cap∧(invoke d.target d.args).run P w=.ok (.enter f args) w ∧
   CallsD P f args u w fun
    |.returned _,u',w' =>Lv P fn tmps R ds (settle u') w'
    |.panicked chain,u',w' =>Lv P fn tmps R ds (raised u' chain) w'
    |.outgrown,_,w' =>R .outgrown w')
theorem Lv.of {fn:Func} {tmps:Array Value} {R:Ending→World→Prop}:∀ {ds:List Deferred} {u:FrameMode} {w:World},Leaves P fn tmps R ds u w→Lv P fn tmps R ds u w
 |[],_,_,h=>h
 |d::ds,u,w,h=>by
  obtain ⟨h1,fv,cap,f,args,h2,h3,h4⟩:=h;refine ⟨h1,.inr ⟨fv,cap,f,args,h2,h3,h4.mono fun e u' w' hR=>?_⟩⟩
  cases e with
  |returned v=>exact Lv.of hR
  |panicked ch=>exact Lv.of hR
  |outgrown=>exact hR
theorem lv_steps {fn:Func} {tmps:Array Value} {R:Ending→World→Prop}:∀ (ds:List Deferred) (u:FrameMode) (w:World) (fr:Frame)
  (cs:List Frame),fr.mode=u→fr.defers=ds→fr.tmps=tmps→P.funcs[fr.fn]?=some fn→fr.kind=.normal→Lv P fn tmps R ds u w →
  ∃ e w' fr',R e w' ∧Comes P (lone fr cs w) (lone fr' cs w') e∧fr'.fn=fr.fn∧fr'.leaving P w' e:=by
 intro ds
 induction ds with
 |nil=>exact fun u w fr cs hu hd ht hf hk h=>leaves_steps [] u w fr cs hu hd ht hf hk h
 |cons d ds ih =>
  intro u w fr cs hu hd ht hf hk h
  obtain ⟨hrun,h⟩:=h
  rcases h with ⟨r,w',htar,htake,hrest⟩|⟨fv,cap,f,args,htar,hinv,hcall⟩
  ·have h1:=step_collected (cs:=cs) (hu ▸ hrun) hd htar htake
   obtain ⟨e',w'',fr',hR',hs',hfn',hl'⟩:=ih u w' { fr with defers:=[]++ds } cs hu rfl ht hf hk hrest;exact ⟨e',w'',fr',hR',Comes.of_steps (.one h1) hs',hfn',hl'⟩
  ·have h1:=step_defer (cs:=cs) (hu ▸ hrun) hd htar hinv
   obtain ⟨e,u',w',frX,hR,hsteps,hkX,hgo⟩:=hcall { fr with defers:=ds } cs hu
   cases e with
   |returned v =>
    have h2:=step_going_returned (c:={ { fr with defers:=ds } with mode:=u' }) (cs:=cs) hkX hgo;obtain ⟨e',w'',fr',hR',hs',hfn',hl'⟩:=ih (settle u') w' { { { fr with defers:=ds } with mode:=u' } with mode:=settle u' } cs rfl rfl ht hf hk hR;exact ⟨e',w'',fr',hR',Comes.of_steps (.head h1 (Steps.trans hsteps (.one h2))) hs',hfn',hl'⟩
   |panicked chain =>
    have h2:=step_going_panicked (c:={ { fr with defers:=ds } with mode:=u' }) (cs:=cs) hgo;obtain ⟨e',w'',fr',hR',hs',hfn',hl'⟩:=ih (raised u' chain) w' { { { fr with defers:=ds } with mode:=u' } with mode:=raised u' chain } cs rfl rfl ht hf hk hR;exact ⟨e',w'',fr',hR',Comes.of_steps (.head h1 (Steps.trans hsteps (.one h2))) hs',hfn',hl'⟩
   |outgrown=>exact ⟨.outgrown,w',fr,hR,Outgrown.of_steps (.one h1) hsteps,rfl,trivial⟩
def Post (ro:Option Nat) (P:Program) (fn:Func) (R:Ending→World→Prop):Exit→Act→World→Prop
 |.normal,a,w=>match ro with|none=>Lv P fn a.tmps R a.defers .returning w|some l=>∃ v w',(Instr.endRound l none).run P w=.ok v w' ∧R (.returned v) w'
 |.ret,a,w=>match ro with|none=>Lv P fn a.tmps R a.defers .returning w|some l=>∃ v w',(Instr.endRound l (some .ret)).run P w=.ok v w' ∧R (.returned v) w'
 |.exit id,_,w=>match ro with|none=>False|some l=>∃ v w',(Instr.endRound l (some (.exit id))).run P w=.ok v w' ∧R (.returned v) w'
 |.goto _,_,_=>False
 |.panic ch,a,w=>match ro with|none=>Lv P fn a.tmps R a.defers (.panicking ch) w|some _=>a.defers=[]∧R (.panicked ch) w
 |.outgrown,_,w=>R .outgrown w
theorem Post.panic {fn:Func} {R:Ending→World→Prop} {ch:List PanicEntry} (hd:a.defers=[]) (h:R (.panicked ch) w):Post ro P fn R (.panic ch) a w:=by
 cases ro with
 |none=>show Lv P fn a.tmps R a.defers (.panicking ch) w;rw [hd];exact h
 |some l=>exact ⟨hd,h⟩
theorem calls_of_runs {f:FuncId} {fn:Func} {c:Code} {args:Array Value} {R:Ending→World→Prop}
  (hf:P.funcs[f]?=some fn) (hb:fn.body=some c)
  (h:Runs none P [.code c] (Post none P fn R) { tmps:=args++Array.replicate (fn.ntmps - args.size) undef,defers:=[] } w):Calls P f args w R:=by
 intro cs
 let b:Frame:={ (default:Frame) with fn:=f,kind:=.normal,roundOf:=none }
 have henter:Frame.enter P f args .normal =
   b.atR { tmps:=args++Array.replicate (fn.ntmps - args.size) undef,defers:=[] } [.code c]:=by
  simp [Frame.enter,Frame.atR,hf,hb,b]
 obtain ⟨e,a',w',hq,harr⟩:=h b cs rfl ⟨fn,hf⟩;rw [← henter] at harr
 cases e with
 |normal =>
  obtain ⟨e',w'',fr',hR,hs,hfn,hl⟩:=lv_steps a'.defers .returning w' { b.atR a' [] with mode:=.returning } cs rfl rfl rfl hf rfl hq;exact ⟨e',w'',fr',hR,Comes.of_steps (Steps.trans (StepsIn.steps harr) (.one (stepR_end rfl))) hs,hfn,hl⟩
 |ret =>
  obtain ⟨todo,hs₀⟩:=harr.1 rfl;obtain ⟨e',w'',fr',hR,hs,hfn,hl⟩:=lv_steps a'.defers .returning w' { b.atR a' todo with mode:=.returning } cs rfl rfl rfl hf rfl hq;exact ⟨e',w'',fr',hR,Comes.of_steps hs₀.steps hs,hfn,hl⟩
 |panic chain =>
  obtain ⟨todo,hs₀⟩:=harr;obtain ⟨e',w'',fr',hR,hs,hfn,hl⟩:=lv_steps a'.defers (.panicking chain) w' { b.atR a' todo with mode:=.panicking chain } cs rfl rfl rfl hf rfl hq;exact ⟨e',w'',fr',hR,Comes.of_steps hs₀.steps hs,hfn,hl⟩
 |exit id=>exact hq.elim
 |goto l=>exact hq.elim
 |outgrown=>exact ⟨.outgrown,w',b,hq,harr.resolve_left (by simp [b]),rfl,trivial⟩
theorem round_of_runs {l f:Nat} {fn:Func} {tmps:Array Value} {assign body:Code} {R:Ending→World→Prop} (hf:∃ fn,P.funcs[f]?=some fn)
  (h:Runs (some l) P [.code assign,.beginRound,.code body] (Post (some l) P fn R) { tmps:=tmps,defers:=[] } w):RoundIn Fence.wide 0 P l f tmps assign body w R:=by
 refine ⟨trivial,fun c cs hr=>?_⟩
 let b:Frame:={ (default:Frame) with fn:=f,kind:=.normal,roundOf:=some l }
 have hb0:Frame.round l f tmps assign body .normal=b.atR { tmps:=tmps,defers:=[] } [.code assign,.beginRound,.code body]:=by
  simp [Frame.round,Frame.atR,b]
 obtain ⟨e,a',w',hq,harr⟩:=h b (c::cs) rfl hf;rw [← hb0] at harr
 cases e with
 |normal =>
  obtain ⟨v,w₄,hend,hR⟩:=hq;exact ⟨.returned v,w₄,hR,StepsIn.trans harr (.one (fenced_wide P _) (stepR_round_end rfl rfl hend))⟩
 |ret =>
  obtain ⟨v,w₄,hend,hR⟩:=hq;obtain ⟨k₁,hs⟩:=harr.2 rfl;exact ⟨.returned v,w₄,hR,StepsIn.trans hs (.one (fenced_wide P _) (stepR_round_ret rfl rfl hend))⟩
 |exit id =>
  obtain ⟨v,w₄,hend,hR⟩:=hq;obtain ⟨k₁,hk,hs⟩:=harr.2 rfl rfl;exact ⟨.returned v,w₄,hR,StepsIn.trans hs (.one (fenced_wide P _) (stepR_round_exit rfl rfl hk hend))⟩
 |goto t=>exact hq.elim
 |panic chain =>
  obtain ⟨hd,hR⟩:=hq;obtain ⟨todo,hs⟩:=harr;refine ⟨.panicked chain,w',hR,StepsIn.trans hs (.one (fenced_wide P _) ?_)⟩;exact step_leave_panicked (fr:={ b.atR a' todo with mode:=.panicking chain }) ⟨rfl,hd,hf⟩
 |outgrown=>exact ⟨.outgrown,w',hq,harr.resolve_left (by simp [b])⟩
end runs
def look:List (Nat × Value)→Nat→Option Value
 |[],_=>none
 |(s,v)::σ,t=>match Nat.beq s t with|true=>some v|false=>look σ t
def ev (σ:List (Nat × Value)):Operand→Option Value
 |.tmp t=>look σ t
 |.const v=>some v
 |.global g=>some (.pointer (some ⟨g,0,none⟩))
 |.func f=>some (.func (.func f) #[] #[])
def Sub (σ' σ:List (Nat × Value)):Prop:=∀ t v,look σ' t=some v→look σ t=some v
theorem Sub.nil {σ:List (Nat × Value)}:Sub [] σ:=fun _ _ h=>by cases h
theorem Sub.refl {σ:List (Nat × Value)}:Sub σ σ:=fun _ _ h=>h
theorem Sub.cons {σ σ' :List (Nat × Value)} {t:Nat} {v:Value} (h:look σ t=some v) (hs:Sub σ' σ):Sub ((t,v)::σ') σ:=fun s u hu=>by
 simp only [look] at hu
 split at hu
 ·rename_i hb;cases hu;rw [← Nat.eq_of_beq_eq_true hb];exact h
 ·exact hs s u hu
def Fits (a:Act) (n:Nat) (σ:List (Nat × Value)):Prop:=a.tmps.size=n∧∀ t v,look σ t=some v→a.tmps[t]?=some v
theorem Fits.sub {a:Act} {n:Nat} {σ σ' :List (Nat × Value)} (h:Fits a n σ) (hs:Sub σ' σ):Fits a n σ' :=⟨h.1,fun t v x=>h.2 t v (hs t v x)⟩
theorem Fits.eval {a:Act} {n:Nat} {σ:List (Nat × Value)} (h:Fits a n σ) {x:Operand} {v:Value} (hx:ev σ x=some v):a.eval x=v:=by
 cases x with
 |tmp t=>have:=h.2 t v hx;simp only [Act.eval,Array.getD_eq_getD_getElem?,this,Option.getD_some]
 |const u=>simpa [ev,Act.eval] using hx
 |global g=>simpa [ev,Act.eval] using hx
 |func f=>simpa [ev,Act.eval] using hx
theorem Fits.put {a:Act} {n d:Nat} {σ:List (Nat × Value)} {v:Value} (h:Fits a n σ) (hd:Nat.blt d n=true):Fits (a.put (some d) v) n ((d,v)::σ):=by
 have hd' :d<a.tmps.size:=by rw [h.1];exact of_decide_eq_true (by simpa [Nat.blt_eq] using hd)
 refine ⟨by simp [Act.put,h.1],fun t u hu=>?_⟩;simp only [look] at hu
 split at hu
 ·rename_i hb;cases hu;have:=Nat.eq_of_beq_eq_true hb;subst this
  simp [Act.put,Array.getElem?_setIfInBounds_self_of_lt hd']
 ·rename_i hb
  have hne:d≠t:=by rintro rfl;simp at hb
  have:=h.2 t u hu;simp only [Act.put,Array.getElem?_setIfInBounds_ne hne,this]
def Knows (σ:List (Nat × Value)) (ρ:Operand→Value):Prop:=∀ x v,ev σ x=some v→ρ x=v
theorem Fits.knows {a:Act} {n:Nat} {σ:List (Nat × Value)} (h:Fits a n σ):Knows σ a.eval:=fun _ _ hx=>h.eval hx
def Does (P:Program) (op:Op) (σ:List (Nat × Value)) (g:Gr) (η:List SProp) (v:Value) (η' :List SProp):Prop :=
 ∀ (o:Oper) (ρ:Operand→Value) (w:World),o.op=op→Knows σ ρ→Holds w g η→∃ w',(execOp ρ o).run P w=.ok (.value v) w' ∧Holds w' g η'
def DoesU (P:Program) (op:Op) (σ:List (Nat × Value)) (g:Gr) (η:List SProp) (η' :List SProp):Prop :=
 ∀ (o:Oper) (ρ:Operand→Value) (w:World),o.op=op→Knows σ ρ→Holds w g η→∃ w',(execOp ρ o).run P w=.ok .skip w' ∧Holds w' g η'
def DoesV (P:Program) (op:Op) (σ:List (Nat × Value)) (g:Gr) (η:List SProp) (η' :List SProp):Prop :=
 ∀ (o:Oper) (ρ:Operand→Value) (w:World),o.op=op→Knows σ ρ→Holds w g η→∃ w' u,(execOp ρ o).run P w=.ok u w' ∧(u=.skip∨∃ v,u=.value v)∧Holds w' g η'
theorem DoesU.v {P:Program} {op:Op} {σ:List (Nat × Value)} {g:Gr} {η η' :List SProp} (h:DoesU P op σ g η η'):DoesV P op σ g η η' :=fun o ρ w h1 h2 h3=>let ⟨w',a,b⟩:=h o ρ w h1 h2 h3;⟨w',.skip,a,.inl rfl,b⟩
def S (ro:Option Nat) (P:Program) (fn:Func) (n:Nat) (R:Ending→World→Prop) (todo:List Item) (σ:List (Nat × Value)) (D:List Deferred) (g:Gr) (η:List SProp):Prop :=
 ∀ a w,Fits a n σ→a.defers=D→Holds w g η→Runs ro P todo (Post ro P fn R) a w
def O (ro:Option Nat) (P:Program) (fn:Func) (n:Nat) (R:Ending→World→Prop) (ops:Array Oper) (l:List Nat) (k:List Item) (σ:List (Nat × Value)) (D:List Deferred) (g:Gr) (η:List SProp):Prop :=
 ∀ a w,Fits a n σ→a.defers=D→Holds w g η→wpOpsIn (Wd ro) 0 P ops (QK ro P k (Post ro P fn R)) l a w
section rules
variable {ro:Option Nat} {P:Program} {fn:Func} {n:Nat} {R:Ending→World→Prop} {k:List Item} {σ σ' :List (Nat × Value)} {D:List Deferred} {g:Gr} {η η' :List SProp}
theorem S.weaken {todo:List Item} (hs:Sub σ' σ) (h:S ro P fn n R todo σ' D g η):S ro P fn n R todo σ D g η:=fun a w hf hd hw=>h a w (hf.sub hs) hd hw
theorem S.perm {todo:List Item} (p:η.Perm η') (h:S ro P fn n R todo σ D g η'):S ro P fn n R todo σ D g η:=fun a w hf hd hw=>h a w hf hd (hw.perm p)
theorem S.sel {todo:List Item} {A:SProp} {ζ:List SProp} (s:Sel η A ζ) (h:S ro P fn n R todo σ D g (A::ζ)):S ro P fn n R todo σ D g η:=S.perm s.perm h
theorem S.drop {todo:List Item} {A:SProp} (h:S ro P fn n R todo σ D g η):S ro P fn n R todo σ D g (A::η):=fun a w hf hd hw=>h a w hf hd hw.drop
theorem S.imp {todo:List Item} (hs:∀ k,Sat η k→Sat η' k) (h:S ro P fn n R todo σ D g η'):S ro P fn n R todo σ D g η:=fun a w hf hd hw=>h a w hf hd (hw.imp hs)
theorem S.entail {todo:List Item} {A:SProp} {ζ:List SProp} (hs:∀ k,A k→Sat ζ k) (h:S ro P fn n R todo σ D g (ζ++η)):S ro P fn n R todo σ D g (A::η) :=
 fun a w hf hd hw=>h a w hf hd (hw.entail hs)
theorem S.exi {todo:List Item} {α:Type} {A:α→SProp} (h:∀ x,S ro P fn n R todo σ D g (A x::η)):S ro P fn n R todo σ D g ((fun k=>∃ x,A x k)::η) :=
 fun a w hf hd hw=>by
  obtain ⟨p,q,r,k,d,s1,s2,k1,k2,kd,t1,t2,⟨x,hx⟩,y⟩:=hw;exact h x a w hf hd ⟨p,q,r,k,d,s1,s2,k1,k2,kd,t1,t2,hx,y⟩
theorem S.freeze {todo:List Item} {A:SProp} (h:∀ k:Fr,A k→g.h.disj k→S ro P fn n R todo σ D (g.add k) η):S ro P fn n R todo σ D g (A::η) :=
 fun a w hf hd hw=>by
  obtain ⟨k,hk,hdj,hw'⟩:=hw.freeze;exact h k hk hdj a w hf hd hw'
theorem S.thaw {todo:List Item} {A:SProp} {k:Fr} (hk:A k) (hdj:g.h.disj k) (h:S ro P fn n R todo σ D g (A::η)):S ro P fn n R todo σ D (g.add k) η :=
 fun a w hf hd hw=>h a w hf hd (hw.thaw hk hdj)
theorem S.seq {x y:Code} (h:S ro P fn n R (.code x::.code y::k) σ D g η):S ro P fn n R (.code (.seq x y)::k) σ D g η :=
 fun a w hf hd hw=>.step (fun _ _=>stepR_seq) (h a w hf hd hw)
theorem S.skip (h:S ro P fn n R k σ D g η):S ro P fn n R (.code .skip::k) σ D g η:=fun a w hf hd hw=>.step (fun _ _=>stepR_skip) (h a w hf hd hw)
theorem S.inBlock {id:Nat} (h:S ro P fn n R k σ D g η):S ro P fn n R (.inBlock id::k) σ D g η:=fun a w hf hd hw=>.step (fun _ _=>stepR_inBlock) (h a w hf hd hw)
theorem S.block {id:Nat} {c:Code} (h:S ro P fn n R (.code c::.inBlock id::k) σ D g η):S ro P fn n R (.code (.block id c)::k) σ D g η :=
 fun a w hf hd hw=>.step (fun _ _=>stepR_block) (h a w hf hd hw)
theorem S.exit {id:Nat} {k' :List Item} (hk:exitTo id k=some k') (h:S ro P fn n R k' σ D g η):S ro P fn n R (.code (.exit id)::k) σ D g η :=
 fun a w hf hd hw=>.step (fun _ _=>stepR_exit hk) (h a w hf hd hw)
theorem S.condT {c:Operand} {x y:Code} (hc:ev σ c=some (.bool true)) (h:S ro P fn n R (.code x::k) σ D g η):S ro P fn n R (.code (.cond c x y)::k) σ D g η :=
 fun a w hf hd hw=>.step (fun _ _=>stepR_cond (hf.eval hc)) (h a w hf hd hw)
theorem S.condF {c:Operand} {x y:Code} (hc:ev σ c=some (.bool false)) (h:S ro P fn n R (.code y::k) σ D g η):S ro P fn n R (.code (.cond c x y)::k) σ D g η :=
 fun a w hf hd hw=>.step (fun _ _=>stepR_cond (hf.eval hc)) (h a w hf hd hw)
theorem S.condB {c:Operand} {x y:Code} {b:Bool} (hc:ev σ c=some (.bool b)) (ht:b=true→S ro P fn n R (.code x::k) σ D g η) (hf:b=false→S ro P fn n R (.code y::k) σ D g η) :
  S ro P fn n R (.code (.cond c x y)::k) σ D g η:=by
 cases b
 ·exact S.condF hc (hf rfl)
 ·exact S.condT hc (ht rfl)
theorem S.condD {c:Operand} {x y:Code} {p:Prop} [Decidable p] (hc:ev σ c=some (.bool (decide p))) (ht:p→S ro P fn n R (.code x::k) σ D g η) (hf:¬p→S ro P fn n R (.code y::k) σ D g η) :
  S ro P fn n R (.code (.cond c x y)::k) σ D g η :=
 S.condB hc (fun h=>ht (of_decide_eq_true h)) (fun h=>hf (of_decide_eq_false h))
theorem S.loop {ι:Type} {c:Code} (φ:ι→Prop) (σs:ι→List (Nat × Value)) (ηs:ι→List SProp) (μ:ι→Nat) (x₀:ι) (h₀:φ x₀) (hσ:Sub (σs x₀) σ) (hη:η=ηs x₀)
  (round:∀ x,φ x→(∀ y,φ y→μ y<μ x→S ro P fn n R (.inLoop c::k) (σs y) D g (ηs y))→S ro P fn n R (.code c::.inLoop c::k) (σs x) D g (ηs x)) :
  S ro P fn n R (.code (.loop c)::k) σ D g η:=by
 have key:∀ m x,μ x=m→φ x→S ro P fn n R (.code c::.inLoop c::k) (σs x) D g (ηs x):=by
  intro m
  induction m using Nat.strongRecOn with
  |_ m ih =>
   intro x hm hx
   refine round x hx fun y hy hlt a w hf hd hw=>.step (fun _ _=>stepR_inLoop) (ih (μ y) (hm ▸ hlt) y rfl hy a w hf hd hw)
 subst hη;exact fun a w hf hd hw=>.step (fun _ _=>stepR_loop) (key _ x₀ rfl h₀ a w (hf.sub hσ) hd hw)
theorem S.region {id:Nat} {ops:Array Oper} {l:List Nat} (hl:List.range ops.size=l) (h:O ro P fn n R ops l k σ D g η):S ro P fn n R (.code (.region id ops false)::k) σ D g η :=
 fun a w hf hd hw=>.step (fun _ _=>stepR_region) (.ops (hl ▸ h a w hf hd hw))
theorem O.nil {ops:Array Oper} (h:S ro P fn n R k σ D g η):O ro P fn n R ops [] k σ D g η:=fun a w hf hd hw=>h a w hf hd hw
theorem O.weaken {ops:Array Oper} {l:List Nat} (hs:Sub σ' σ) (h:O ro P fn n R ops l k σ' D g η):O ro P fn n R ops l k σ D g η:=fun a w hf hd hw=>h a w (hf.sub hs) hd hw
def opAt (ops:Array Oper) (i n:Nat):Option (Nat × Op) :=
 match ops[i]? with
 |some ⟨some d,op,_,_,_,none⟩=>match Nat.blt d n with|true=>some (d,op)|false=>none
 |_=>none
def opAtU (ops:Array Oper) (i:Nat):Option Op :=
 match ops[i]? with
 |some ⟨none,op,_,_,_,none⟩=>some op
 |_=>none
def opAtG (ops:Array Oper) (i n:Nat):Option (Nat × Op × Nat × Bool) :=
 match ops[i]? with
 |some ⟨some d,op,_,_,_,some (j,want)⟩ =>
  match Nat.blt d n,ops[j]? with
  |true,some o=>match o.dst with|some t=>some (d,op,t,want)|none=>none
  |_,_=>none
 |_=>none
theorem opAt_spec {ops:Array Oper} {i n d:Nat} {op:Op} (h:opAt ops i n=some (d,op)) :
  ∃ o,ops[i]?=some o∧o.dst=some d∧o.op=op∧o.guard=none∧Nat.blt d n=true:=by
 unfold opAt at h
 split at h
 ·rename_i d' op' _ _ _ ho
  split at h
  ·rename_i hb;cases h;exact ⟨_,ho,rfl,rfl,rfl,hb⟩
  ·cases h
 ·cases h
theorem opAtU_spec {ops:Array Oper} {i:Nat} {op:Op} (h:opAtU ops i=some op):∃ o,ops[i]?=some o∧o.dst=none∧o.op=op∧o.guard=none:=by
 unfold opAtU at h
 split at h
 ·rename_i op' _ _ _ ho;cases h;exact ⟨_,ho,rfl,rfl,rfl⟩
 ·cases h
theorem opAtG_spec {ops:Array Oper} {i n d t:Nat} {op:Op} {want:Bool} (h:opAtG ops i n=some (d,op,t,want)) :
  ∃ o j oj,ops[i]?=some o∧o.dst=some d∧o.op=op∧o.guard=some (j,want)∧ops[j]?=some oj∧oj.dst=some t∧Nat.blt d n=true:=by
 unfold opAtG at h
 split at h
 ·rename_i d' op' _ _ _ j want' ho
  split at h
  ·rename_i oj hb hj
   split at h
   ·rename_i t' ht;cases h;exact ⟨_,_,_,ho,rfl,rfl,rfl,hj,ht,hb⟩
   ·cases h
  ·cases h
 ·cases h
theorem yielded_of {ops:Array Oper} {a:Act} {σ:List (Nat × Value)} {n j t:Nat} {oj:Oper} {b:Bool} (hf:Fits a n σ) (hj:ops[j]?=some oj) (ht:oj.dst=some t) (hl:look σ t=some (.bool b)) :
  yielded ops a.tmps j=some b:=by
 simp [yielded,hj,ht,hf.2 t _ hl]
inductive Fires (ops:Array Oper) (i n:Nat) (σ:List (Nat × Value)):Nat→Op→Prop
 |p {d:Nat} {op:Op} (h:opAt ops i n=some (d,op)):Fires ops i n σ d op
 |g {d t:Nat} {op:Op} {b:Bool} (h:opAtG ops i n=some (d,op,t,b)) (hl:look σ t=some (.bool b)):Fires ops i n σ d op
theorem Fires.spec {ops:Array Oper} {i n d:Nat} {σ:List (Nat × Value)} {op:Op} (h:Fires ops i n σ d op) :
  ∃ o,ops[i]?=some o∧o.dst=some d∧o.op=op∧(∀ a,Fits a n σ→Region.wanted o (yielded ops a.tmps)=true)∧Nat.blt d n=true:=by
 cases h with
 |p h =>
  obtain ⟨o,a,b,c,d,e⟩:=opAt_spec h;exact ⟨o,a,b,c,fun _ _=>by simp [Region.wanted,d],e⟩
 |g h hl =>
  obtain ⟨o,j,oj,hi,hdst,hop,hg,hj,ht,hb⟩:=opAtG_spec h;exact ⟨o,hi,hdst,hop,fun a hf=>by simp [Region.wanted,hg,yielded_of hf hj ht hl],hb⟩
theorem notDefer_value {P:Program} {o:Oper} {ρ:Operand→Value} {w w' :World} {v:Value} (h:(execOp ρ o).run P w=.ok (.value v) w'):∀ c,o.op≠.defer c:=fun c hc=>by
 simp only [execOp,hc,Sem.run_bind] at h
 cases hr:(resolve ρ c o.type).run P w<;>simp [hr,Result.andThen] at h
theorem notDefer_skip {P:Program} {o:Oper} {ρ:Operand→Value} {w w' :World} (h:(execOp ρ o).run P w=.ok .skip w'):∀ c,o.op≠.defer c:=fun c hc=>by
 simp only [execOp,hc,Sem.run_bind] at h
 cases hr:(resolve ρ c o.type).run P w<;>simp [hr,Result.andThen] at h
theorem O.fire {ro:Option Nat} {P:Program} {ops:Array Oper} {i:Nat} {o:Oper} {l:List Nat} {a:Act} {w:World} {Q:Exit→Act→World→Prop} {r:Result Next} (hi:ops[i]?=some o) (hg:Region.wanted o (yielded ops a.tmps)=true)
  (hnd:∀ c,o.op≠.defer c) (hr:(execOp a.eval o).run P w=r) (h:o.uponIn (Wd ro) 0 P a (wpOpsIn (Wd ro) 0 P ops Q l) Q r):wpOpsIn (Wd ro) 0 P ops Q (i::l) a w:=by
 simp only [wpOpsIn,hi,hg,if_true];exact ⟨fun _ _=>trivial,by rw [Oper.semAt_eq _ _ _ hnd,hr];exact h⟩
theorem calls_wd {ro:Option Nat} {P:Program} {f:FuncId} {args:Array Value} {w:World} {K:Ending→World→Prop} (h:Calls P f args w K):((Wd ro).depth.isSome=true→1≤0)∧CallsIn (Wd ro) (0 - 1) P f args w K :=
 ⟨fun h=>(by cases h),(callsIn_wide (n:=0)).2 h⟩
theorem O.op {ops:Array Oper} {i d:Nat} {l:List Nat} {op:Op} {v:Value} (ho:Fires ops i n σ d op) (hdo:Does P op σ g η v η')
  (h:O ro P fn n R ops l k ((d,v)::σ) D g η'):O ro P fn n R ops (i::l) k σ D g η:=by
 intro a w hf hd hw
 obtain ⟨o,hi,hdst,hop,hg,hb⟩:=ho.spec;obtain ⟨w',hrun,hw'⟩:=hdo o a.eval w hop hf.knows hw;refine O.fire hi (hg a hf) (notDefer_value hrun) hrun ?_;rw [Oper.uponIn_value,hdst];exact h _ _ (hf.put hb) hd hw'
theorem O.opU {ops:Array Oper} {i:Nat} {l:List Nat} {op:Op} (ho:opAtU ops i=some op) (hdo:DoesU P op σ g η η')
  (h:O ro P fn n R ops l k σ D g η'):O ro P fn n R ops (i::l) k σ D g η:=by
 intro a w hf hd hw
 obtain ⟨o,hi,hdst,hop,hg⟩:=opAtU_spec ho;obtain ⟨w',hrun,hw'⟩:=hdo o a.eval w hop hf.knows hw;refine O.fire hi (by simp [Region.wanted,hg]) (notDefer_skip hrun) hrun ?_;rw [Oper.uponIn_skip,hdst];exact h _ _ hf hd hw'
def notB (b:Bool):Value→Bool|.bool c=>c !=b|_=>true
theorem O.opN {ops:Array Oper} {i d t:Nat} {l:List Nat} {op:Op} {b:Bool} {v:Value} (ho:opAtG ops i n=some (d,op,t,b)) (hl:look σ t=some v) (hv:notB b v=true)
  (h:O ro P fn n R ops l k ((d,undef)::σ) D g η):O ro P fn n R ops (i::l) k σ D g η:=by
 intro a w hf hd hw
 obtain ⟨o,j,oj,hi,hdst,hop,hg,hj,ht,hb⟩:=opAtG_spec ho;have hgw:Region.wanted o (yielded ops a.tmps)=false:=by
  have:=hf.2 t _ hl
  cases v<;>simp [Region.wanted,hg,yielded,hj,ht,this]
  cases b<;>simp_all [notB]
 simp only [wpOpsIn,hi,hgw,Bool.false_eq_true,if_false];rw [hdst];exact ⟨fun _ _=>trivial,h _ _ (hf.put hb) hd hw⟩
theorem O.caseB {ops:Array Oper} {l:List Nat} {b:Bool} (t:Nat) (hl:look σ t=some (.bool b)) (ht:b=true→O ro P fn n R ops l k ((t,.bool true)::σ) D g η)
  (hf:b=false→O ro P fn n R ops l k ((t,.bool false)::σ) D g η):O ro P fn n R ops l k σ D g η:=by
 cases b
 ·exact O.weaken (Sub.cons hl Sub.refl) (hf rfl)
 ·exact O.weaken (Sub.cons hl Sub.refl) (ht rfl)
theorem O.caseD {ops:Array Oper} {l:List Nat} {p:Prop} [Decidable p] (t:Nat) (hl:look σ t=some (.bool (decide p))) (ht:p→O ro P fn n R ops l k ((t,.bool true)::σ) D g η)
  (hf:¬p→O ro P fn n R ops l k ((t,.bool false)::σ) D g η):O ro P fn n R ops l k σ D g η :=
 O.caseB t hl (fun h=>ht (of_decide_eq_true h)) (fun h=>hf (of_decide_eq_false h))
theorem results_one {t:Tmp} {v:Value} {a:Act} {w:World} (hr:fn.results=#[.tmp t]) (hf:Fits a n σ) (hl:look σ t=some v):(results fn a.tmps).run P w=.ok v w:=by
 have:=hf.2 t v hl
 simp [results,hr,Array.getD_eq_getD_getElem?,this]
theorem S.ret {t:Tmp} {v:Value} (hr:fn.results=#[.tmp t]) (hl:look σ t=some v) (h:∀ w,Holds w g η→R (.returned v) w):S none P fn n R (.code .ret::k) σ [] g η:=by
 intro a w hf hd hw
 refine .ret ?_;simp only [Post,hd,Lv,Leaves];exact ⟨v,results_one hr hf hl,h w hw⟩
theorem S.end0 (hr:fn.results=#[]) (h:∀ w,Holds w g η→R (.returned (.tuple #[])) w):S none P fn n R [] σ [] g η:=by
 intro a w hf hd hw
 refine .nil ?_;simp only [Post,hd,Lv,Leaves];exact ⟨.tuple #[],by simp [results,hr],h w hw⟩
theorem S.ret2 {t s:Tmp} {v u:Value} (hr:fn.results=#[.tmp t,.tmp s]) (hl:look σ t=some v) (hl' :look σ s=some u) (h:∀ w,Holds w g η→R (.returned (.tuple #[v,u])) w) :
  S none P fn n R (.code .ret::k) σ [] g η:=by
 intro a w hf hd hw
 refine .ret ?_;simp only [Post,hd,Lv,Leaves];refine ⟨.tuple #[v,u],?_,h w hw⟩
 simp [results,hr,Array.getD_eq_getD_getElem?,hf.2 t v hl,hf.2 s u hl']
end rules
def Con (P:Program) (f:FuncId) (args:Array Value) (r:Fr) (η:List SProp) (Post:Ending→List SProp→Prop):Prop :=
 ∀ g:Gr,r.sub g.h→∀ w,Holds w g η→Calls P f args w fun e w' =>∃ η',Post e η' ∧Holds w' g η'
def Ret (K:Value→List SProp→Prop):Ending→List SProp→Prop
 |.returned v,η=>K v η
 |_,_=>False
def RetP (K:Value→List SProp→Prop) (X:List PanicEntry→List SProp→Prop):Ending→List SProp→Prop
 |.returned v,η=>K v η
 |.panicked ch,η=>X ch η
 |.outgrown,_=>False
section con
variable {ro:Option Nat} {P:Program} {fn:Func} {n:Nat} {f:FuncId} {args:Array Value} {r:Fr} {η:List SProp} {Post:Ending→List SProp→Prop}
def slots:List Value→Nat→List (Nat × Value)
 |[],_=>[]
 |v::vs,i=>(i,v)::slots vs (i+1)
theorem look_slots:∀ (vs:List Value) (i t:Nat) (v:Value),look (slots vs i) t=some v→i≤t∧vs[t - i]?=some v
 |[],_,_,_,h=>by cases h
 |u::vs,i,t,v,h=>by
  simp only [slots,look] at h
  split at h
  ·rename_i hb;cases h;have:=Nat.eq_of_beq_eq_true hb;subst this;simp
  ·rename_i hb
   have hne:i≠t:=by rintro rfl;simp at hb
   obtain ⟨h1,h2⟩:=look_slots vs (i+1) t v h;have:t - i=(t - (i+1))+1:=by omega
   exact ⟨by omega,by rw [this];simpa using h2⟩
theorem Con.of {c:Code} (vs:List Value) (ha:args=vs.toArray) (hf:P.funcs[f]?=some fn) (hb:fn.body=some c) (hn:fn.ntmps=n) (hle:Nat.ble vs.length n=true)
  (h:∀ g:Gr,r.sub g.h→∀ R:Ending→World→Prop,(∀ e η' w',Post e η' →Holds w' g η' →R e w')→S none P fn n R [.code c] (slots vs 0) [] g η):Con P f args r η Post:=by
 intro g hr w hw
 subst ha hn;refine calls_of_runs hf hb (h g hr _ (fun e η' w' hp hh=>⟨η',hp,hh⟩) _ w ⟨?_,?_⟩ rfl hw)
 ·have:vs.length≤fn.ntmps:=Nat.le_of_ble_eq_true hle
  simp;omega
 ·intro t v hl
  obtain ⟨_,h2⟩:=look_slots vs 0 t v hl;simp only [Nat.sub_zero] at h2;have:t<vs.length:=by
   rcases Nat.lt_or_ge t vs.length with q|q
   ·exact q
   ·rw [List.getElem?_eq_none q] at h2;cases h2
  rw [Array.getElem?_append_left (by simpa using this)]
  simpa using h2
theorem Con.mono {Post' :Ending→List SProp→Prop} (h:Con P f args r η Post) (hp:∀ e η',Post e η' →Post' e η'):Con P f args r η Post' :=
 fun g hr w hw=>(h g hr w hw).mono fun _ _ ⟨η',x,y⟩=>⟨η',hp _ _ x,y⟩
theorem Con.sub {r' :Fr} (h:Con P f args r η Post) (hs:r.sub r'):Con P f args r' η Post:=fun g hr w hw=>h g (Fr.sub_trans hs hr) w hw
theorem Con.frame {ζ:List SProp} (h:Con P f args r η Post):Con P f args r (η++ζ) fun e η' =>∃ η₁,Post e η₁∧η' =η₁++ζ :=
 fun g hr w hw=>by
  obtain ⟨k,hk,hd,hw'⟩:=hw.freezeAll;exact (h (g.add k) (Fr.sub_trans hr (Fr.sub_add_left _ _)) w hw').mono fun _ _ ⟨η',x,y⟩=>⟨η' ++ζ,⟨η',x,rfl⟩,y.thawAll hk hd⟩
end con
def callable (P:Program) (f:FuncId):Bool :=
 match P.funcs[f]? with
 | some fn => fn.name != "runtime.NumGoroutine" && fn.body.isSome
 |none=>false
def evs (σ:List (Nat × Value)):List Operand→Option (List Value)
 |[]=>some []
 |x::xs=>match ev σ x,evs σ xs with|some v,some vs=>some (v::vs)|_,_=>none
theorem evs_spec {σ:List (Nat × Value)} {ρ:Operand→Value} (hk:Knows σ ρ):∀ {xs:List Operand} {vs:List Value},evs σ xs=some vs→xs.map ρ=vs
 |[],_,h=>by cases h;rfl
 |x::xs,vs,h=>by
  simp only [evs] at h
  split at h
  ·rename_i v us hv hus;cases h;simp [hk x v hv,evs_spec hk hus]
  ·cases h
theorem run_callFunc {P:Program} {f:FuncId} (hc:callable P f=true) (args:Array Value) (w:World):(callFunc f args).run P w=.ok (.enter f args) w:=by
 unfold callable at hc
 split at hc
 ·rename_i fn hf
  simp only [Bool.and_eq_true,bne_iff_ne,ne_eq] at hc;have h2:fn.body≠none:=by intro hb;rw [hb] at hc;simp at hc
  simp [callFunc,hf,hc.1,h2]
 ·cases hc
theorem run_call {P:Program} {f:FuncId} {first cap:Array Value} {ρ:Operand→Value} {o:Oper} {x:Operand} {xs:Array Operand} {ts:Array TypeId} (ho:o.op=.call ⟨.value x,xs,ts⟩)
  (hx:ρ x=.func (.func f) first cap) (hc:callable P f=true) (w:World):(execOp ρ o).run P w=.ok (.enter f (first++xs.map ρ++cap)) w:=by
 simp [execOp,ho,resolve,hx,Deferred.ofValue,invoke,run_callFunc hc]
section calls
variable {ro:Option Nat} {P:Program} {fn:Func} {n:Nat} {R:Ending→World→Prop} {k:List Item} {σ:List (Nat × Value)} {D:List Deferred} {g:Gr} {η ζ:List SProp}
 {ops:Array Oper} {i d:Nat} {l:List Nat} {f:FuncId} {x:Operand} {xs:Array Operand} {ts:Array TypeId} {vals:List Value} {K:Value→List SProp→Prop}
theorem O.call {first cap:Array Value} (ho:Fires ops i n σ d (.call ⟨.value x,xs,ts⟩)) (hx:ev σ x=some (.func (.func f) first cap)) (hc:callable P f=true)
  (hv:evs σ xs.toList=some vals) {args:Array Value} (hargs:first++vals.toArray++cap=args) (con:Con P f args g.h η (Ret K))
  (h:∀ v η',K v η' →O ro P fn n R ops l k ((d,v)::σ) D g (η' ++ζ)):O ro P fn n R ops (i::l) k σ D g (η++ζ):=by
 intro a w hf hd hw
 obtain ⟨o,hi,hdst,hop,hg,hb⟩:=ho.spec;have hm:xs.map a.eval=vals.toArray:=by
  rw [← evs_spec hf.knows hv,← Array.toList_map]
 refine O.fire hi (hg a hf) (by rw [hop];intro c hc;cases hc) (run_call hop (hf.knows x _ hx) hc w) ?_;rw [Oper.uponIn_enter,hm,hargs];refine calls_wd ?_;refine (con.frame (ζ:=ζ) g (Fr.sub_refl _) w hw).mono fun e w' hh=>?_;obtain ⟨η',⟨η₁,hp,rfl⟩,hw'⟩:=hh
 cases e with
 |returned v =>
  show wpOpsIn (Wd ro) 0 P ops _ l (a.put o.dst v) w'
  rw [hdst];exact h v η₁ hp _ _ (hf.put hb) hd hw'
 |panicked _=>exact hp.elim
 |outgrown=>exact hp.elim
theorem O.callP {first cap:Array Value} {X:List PanicEntry→List SProp→Prop} (ho:Fires ops i n σ d (.call ⟨.value x,xs,ts⟩)) (hx:ev σ x=some (.func (.func f) first cap)) (hc:callable P f=true)
  (hv:evs σ xs.toList=some vals) {args:Array Value} (hargs:first++vals.toArray++cap=args) (con:Con P f args g.h η (RetP K X))
  (hp:∀ ch η' w,X ch η' →Holds w g (η' ++ζ)→R (.panicked ch) w)
  (h:∀ v η',K v η' →O ro P fn n R ops l k ((d,v)::σ) [] g (η' ++ζ)):O ro P fn n R ops (i::l) k σ [] g (η++ζ):=by
 intro a w hf hd hw
 obtain ⟨o,hi,hdst,hop,hg,hb⟩:=ho.spec;have hm:xs.map a.eval=vals.toArray:=by
  rw [← evs_spec hf.knows hv,← Array.toList_map]
 refine O.fire hi (hg a hf) (by rw [hop];intro c hc;cases hc) (run_call hop (hf.knows x _ hx) hc w) ?_;rw [Oper.uponIn_enter,hm,hargs];refine calls_wd ?_;refine (con.frame (ζ:=ζ) g (Fr.sub_refl _) w hw).mono fun e w' hh=>?_;obtain ⟨η',⟨η₁,hq,rfl⟩,hw'⟩:=hh
 cases e with
 |returned v =>
  show wpOpsIn (Wd ro) 0 P ops _ l (a.put o.dst v) w'
  rw [hdst];exact h v η₁ hq _ _ (hf.put hb) hd hw'
 |panicked ch =>
  exact Post.panic hd (hp ch η₁ w' hq hw')
 |outgrown=>exact hq.elim
end calls
end Go.Sp
end
