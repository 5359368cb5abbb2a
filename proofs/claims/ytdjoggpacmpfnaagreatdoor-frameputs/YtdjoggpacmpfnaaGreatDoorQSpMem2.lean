/- Texts of this proof, one behind the other. -/
import Derived.WalkKit
import Derived.Defers
import Derived.Recover
import Derived.Orders
import Derived.RangeFuncLeaves
import Derived.WalkLawsBesides
import Derived.IntWalk
section
/- Texts of this proof, one behind the other. -/
section
/- Texts of this proof. -/
namespace Go.Sp
abbrev Fr:=Nat→Option Obj
namespace Fr
def sub (h k:Fr):Prop:=∀ i o,h i=some o→k i=some o
def ea (h k:Fr):Prop:=∀ i,h i=none∨k i=none
def add (h k:Fr):Fr:=fun i=>(h i).or (k i)
def one (b:Nat) (o:Obj):Fr:=fun i=>if i=b then some o else none
def emp:Fr:=fun _=>none
theorem bH (h:Fr):h.sub h:=fun _ _ x=>x
theorem bQ {a b c:Fr} (h:a.sub b) (k:b.sub c):a.sub c:=fun i o x=>k i o (h i o x)
theorem e7 {a b:Fr} (h:a.ea b):b.ea a:=fun i=>(h i).symm
theorem eG {a b a' b' :Fr} (h:a.ea b) (ha:a'.sub a) (hb:b'.sub b):a'.ea b' :=fun i=>by
 rcases h i with x|x
 ·left;cases hx:a' i with
  |none=>rfl
  |some o=>rw [ha i o hx] at x;cases x
 ·right;cases hx:b' i with
  |none=>rfl
  |some o=>rw [hb i o hx] at x;cases x
theorem fi (a b:Fr):a.sub (a.add b):=fun i o h=>by simp [add,h]
theorem jw {a b:Fr} (hd:a.ea b):b.sub (a.add b):=fun i o h=>by
 rcases hd i with x|x
 ·simp [add,x,h]
 ·rw [h] at x;cases x
theorem iK {a b c:Fr} (ha:a.sub c) (hb:b.sub c):(a.add b).sub c:=fun i o h=>by
 simp only [add] at h
 cases hx:a i with
 |none=>rw [hx] at h;exact hb i o (by simpa using h)
 |some x=>rw [hx] at h;exact ha i o (by rw [hx];simpa using h)
theorem s5 {a b c:Fr} (h1:a.ea c) (h2:b.ea c):(a.add b).ea c:=fun i=>by
 rcases h1 i with x|x
 ·rcases h2 i with y|y
  ·left;simp [add,x,y]
  ·exact .inr y
 ·exact .inr x
theorem qs {a b c:Fr} (h1:c.ea a) (h2:c.ea b):c.ea (a.add b):=e7 (s5 (e7 h1) (e7 h2))
theorem eA (a:Fr):emp.ea a:=fun _=>.inl rfl
theorem dY (a:Fr):emp.sub a:=fun _ _ h=>by cases h
end Fr
abbrev az:=Fr→Prop
def Sat:List az→Fr→Prop
 |[],_=>True
 |A::aa,h=>∃ h1 h2:Fr,h1.ea h2∧h1.sub h∧h2.sub h∧A h1∧Sat aa h2
theorem Sat.mono:∀ {aa:List az} {h k:Fr},h.sub k→Sat aa h→Sat aa k
 |[],_,_,_,_=>trivial
 |_::_,_,_,hs,⟨h1,h2,hd,a,b,x,y⟩=>⟨h1,h2,hd,Fr.bQ a hs,Fr.bQ b hs,x,y⟩
theorem Sat.cons {A:az} {aa:List az} {h1 h2:Fr} (hd:h1.ea h2) (x:A h1) (y:Sat aa h2):Sat (A::aa) (h1.add h2) :=
 ⟨h1,h2,hd,Fr.fi _ _,Fr.jw hd,x,y⟩
theorem Sat.append:∀ {aa ζ:List az} {h1 h2:Fr},h1.ea h2→Sat aa h1→Sat ζ h2→Sat (aa++ζ) (h1.add h2)
 |[],_,_,_,hd,_,y=>Sat.mono (Fr.jw hd) y
 |_::_,_,h1,h2,hd,⟨k1,k2,kd,s1,s2,x,y⟩,z=>by
  have d2:k2.ea h2:=Fr.eG hd s2 (Fr.bH _);refine ⟨k1,k2.add h2,Fr.qs kd (Fr.eG hd s1 (Fr.bH _)),Fr.bQ s1 (Fr.fi _ _),?_,x,Sat.append d2 y z⟩;exact Fr.iK (Fr.bQ s2 (Fr.fi _ _)) (Fr.jw hd)
theorem Sat.split:∀ {aa ζ:List az} {h:Fr},Sat (aa++ζ) h→∃ h1 h2:Fr,h1.ea h2∧h1.sub h∧h2.sub h∧Sat aa h1∧Sat ζ h2
 |[],_,h,x=>⟨Fr.emp,h,Fr.eA _,Fr.dY _,Fr.bH _,trivial,x⟩
 |_::aa,ζ,h,⟨k1,k2,kd,s1,s2,x,y⟩=>by
  obtain ⟨m1,m2,md,t1,t2,p,q⟩:=Sat.split y;have d1:k1.ea m1:=Fr.eG kd (Fr.bH _) t1;have d2:k1.ea m2:=Fr.eG kd (Fr.bH _) t2;exact ⟨k1.add m1,m2,Fr.s5 d2 md,Fr.iK s1 (Fr.bQ t1 s2),Fr.bQ t2 s2,Sat.cons d1 x p,q⟩
theorem Sat.swap {A B:az} {aa:List az} {h:Fr}:Sat (A::B::aa) h→Sat (B::A::aa) h:=by
 rintro ⟨h1,h2,hd,s1,s2,x,k1,k2,kd,t1,t2,y,z⟩;have d1:h1.ea k1:=Fr.eG hd (Fr.bH _) t1;have d2:h1.ea k2:=Fr.eG hd (Fr.bH _) t2;exact ⟨k1,h1.add k2,Fr.qs (Fr.e7 d1) kd,Fr.bQ t1 s2,Fr.iK s1 (Fr.bQ t2 s2),y,Sat.cons d2 x z⟩
theorem Sat.g9 {A B:az} {aa ζ:List az} {h:Fr} (hab:∀ h,A h→B h) (hs:∀ h,Sat aa h→Sat ζ h):Sat (A::aa) h→Sat (B::ζ) h :=
 fun ⟨h1,h2,hd,s1,s2,x,y⟩=>⟨h1,h2,hd,s1,s2,hab _ x,hs _ y⟩
theorem Sat.perm {aa ζ:List az} (p:aa.Perm ζ):∀ {h:Fr},Sat aa h→Sat ζ h:=by
 induction p with
 |nil=>exact fun x=>x
 |cons A _ ih=>exact fun x=>Sat.g9 (fun _ y=>y) (fun _ y=>ih y) x
 |swap A B _=>exact fun x=>Sat.swap x
 |trans _ _ ih1 ih2=>exact fun x=>ih2 (ih1 x)
inductive bA:List az→az→List az→Prop
 |here {A:az} {aa:List az}:bA (A::aa) A aa
 |there {A B:az} {aa ζ:List az}:bA aa A ζ→bA (B::aa) A (B::ζ)
theorem bA.perm {aa ζ:List az} {A:az} (s:bA aa A ζ):aa.Perm (A::ζ):=by
 induction s with
 |here=>exact .refl _
 |there _ ih=>exact (List.Perm.cons _ ih).trans (.swap _ _ _)
structure bp where
 h:Fr
 os:Os
 tape:Nat→Question→Nat
 out:Array (Nat × ByteArray)
 Si:Nat
def bp.add (g:bp) (k:Fr):bp:={ g with h:=g.h.add k }
end Go.Sp
namespace Go
def World.fr (w:World):Sp.Fr:=fun i=>w.heap[i]?
def World.CJ (w:World):Sp.bp:=⟨w.fr,w.os,w.tape,w.output,w.drawn⟩
end Go
namespace Go.Sp
def ax (w:World) (g:bp) (aa:List az):Prop :=
 w.os=g.os∧w.tape=g.tape∧(w.output=g.out∧g.Si≤w.drawn)∧∃ h:Fr,g.h.ea h∧g.h.sub w.fr∧h.sub w.fr∧Sat aa h
theorem ax.perm {w:World} {g:bp} {aa ζ:List az} (h:ax w g aa) (p:aa.Perm ζ):ax w g ζ :=
 ⟨h.1,h.2.1,h.2.2.1,let ⟨k,a,b,c,d⟩:=h.2.2.2;⟨k,a,b,c,d.perm p⟩⟩
theorem ax.eJ {w:World} {g:bp} {aa ζ:List az} {A:az} (h:ax w g aa) (s:bA aa A ζ):ax w g (A::ζ):=h.perm s.perm
theorem ax.imp {w:World} {g:bp} {aa ζ:List az} (h:ax w g aa) (hs:∀ k,Sat aa k→Sat ζ k):ax w g ζ :=
 ⟨h.1,h.2.1,h.2.2.1,let ⟨k,a,b,c,d⟩:=h.2.2.2;⟨k,a,b,c,hs _ d⟩⟩
theorem ax.Cy {w:World} {g:bp} {aa ζ:List az} {A:az} (h:ax w g (A::aa)) (hs:∀ k,A k→Sat ζ k):ax w g (ζ++aa) :=
 h.imp fun _ ⟨_,_,hd,s1,s2,x,y⟩=>Sat.mono (Fr.iK s1 s2) (Sat.append hd (hs _ x) y)
theorem ax.drop {w:World} {g:bp} {aa:List az} {A:az} (h:ax w g (A::aa)):ax w g aa :=
 h.imp fun _ ⟨_,_,_,_,s2,_,y⟩=>Sat.mono s2 y
theorem ax.fU {w:World} {g:bp} {aa:List az} (h:ax w g aa):ax w g []:=h.imp fun _ _=>trivial
theorem ax.freeze {w:World} {g:bp} {aa:List az} {A:az} (h:ax w g (A::aa)) :
  ∃ k:Fr,A k∧g.h.ea k∧ax w (g.add k) aa:=by
 obtain ⟨a,b,c,k,hd,s1,s2,k1,k2,kd,t1,t2,x,y⟩:=h;refine ⟨k1,x,Fr.eG hd (Fr.bH _) t1,a,b,c,k2,?_,Fr.iK s1 (Fr.bQ t1 s2),Fr.bQ t2 s2,y⟩;exact Fr.s5 (Fr.eG hd (Fr.bH _) t2) kd
theorem ax.wY {w:World} {g:bp} {aa:List az} {A:az} {k:Fr} (h:ax w (g.add k) aa) (x:A k) (hd:g.h.ea k) :
  ax w g (A::aa):=by
 obtain ⟨a,b,c,m,md,s1,s2,y⟩:=h;have d1:k.ea m:=Fr.eG md (Fr.jw hd) (Fr.bH _);have d2:g.h.ea m:=Fr.eG md (Fr.fi _ _) (Fr.bH _);exact ⟨a,b,c,k.add m,Fr.qs hd d2,Fr.bQ (Fr.fi _ _) s1,
  Fr.iK (Fr.bQ (Fr.jw hd) s1) s2,Sat.cons d1 x y⟩
theorem ax.CD {w:World} {g:bp} {aa ζ:List az} (h:ax w g (aa++ζ)) :
  ∃ k:Fr,Sat ζ k∧g.h.ea k∧ax w (g.add k) aa:=by
 obtain ⟨a,b,c,k,hd,s1,s2,y⟩:=h;obtain ⟨k1,k2,kd,t1,t2,p,q⟩:=Sat.split y;refine ⟨k2,q,Fr.eG hd (Fr.bH _) t2,a,b,c,k1,?_,Fr.iK s1 (Fr.bQ t2 s2),Fr.bQ t1 s2,p⟩;exact Fr.s5 (Fr.eG hd (Fr.bH _) t1) (Fr.e7 kd)
theorem ax.JZ {w:World} {g:bp} {aa ζ:List az} {k:Fr} (h:ax w (g.add k) aa) (x:Sat ζ k) (hd:g.h.ea k):ax w g (aa++ζ):=by
 obtain ⟨a,b,c,m,md,s1,s2,y⟩:=h;have d1:k.ea m:=Fr.eG md (Fr.jw hd) (Fr.bH _);have d2:g.h.ea m:=Fr.eG md (Fr.fi _ _) (Fr.bH _);refine ⟨a,b,c,m.add k,Fr.qs d2 hd,Fr.bQ (Fr.fi _ _) s1,Fr.iK s2 (Fr.bQ (Fr.jw hd) s1),Sat.append (Fr.e7 d1) y x⟩
def kg (b:Nat) (o:Obj):az:=fun h=>h b=some o
theorem ax.ground {w:World} {g:bp} {aa:List az} (h:ax w g aa):g.h.sub w.fr:=h.2.2.2.elim fun _ x=>x.2.1
theorem ax.block {w:World} {g:bp} {aa:List az} {b:Nat} {o:Obj} (h:ax w g (kg b o::aa)):w.heap[b]?=some o:=by
 obtain ⟨_,_,_,k,_,_,s2,k1,_,_,t1,_,x,_⟩:=h;exact s2 b o (t1 b o x)
theorem ax.drewN {w:World} {g:bp} {aa:List az} (h:ax w g aa) (n:Nat) (hn:w.drawn≤n):ax { w with drawn:=n } g aa:=⟨h.1,h.2.1,⟨h.2.2.1.1,Nat.le_trans h.2.2.1.2 hn⟩,h.2.2.2⟩
theorem ax.alloc {w:World} {g:bp} {aa:List az} (h:ax w g aa) (o:Obj):ax (w.alloc o) g (kg w.heap.size o::aa):=by
 obtain ⟨a,b,c,k,hd,s1,s2,y⟩:=h;have hlt:∀ {f:Fr} {x:Obj},f.sub w.fr→f w.heap.size=some x→False:=fun hs hx=>by
  have:=hs _ _ hx
  simp [World.fr] at this
 have hn:∀ {f:Fr},f.sub w.fr→f w.heap.size=none:=fun {f} hs=>by
  cases hx:f w.heap.size with
  |none=>rfl
  |some x=>exact (hlt hs hx).elim
 have up:w.fr.sub (w.alloc o).fr:=fun i x hx=>by
  show (w.heap.push o)[i]?=some x
  have hx:w.heap[i]?=some x:=hx;have:i<w.heap.size:=by
   rcases Nat.lt_or_ge i w.heap.size with q|q
   ·exact q
   ·simp [Array.getElem?_eq_none q] at hx
  rw [Array.getElem?_push_lt this];rw [Array.getElem?_eq_getElem this] at hx;exact hx
 have bz:∀ {f:Fr},f.sub w.fr→f.ea (Fr.one w.heap.size o):=fun {f} hs i=>by
  by_cases hi:i=w.heap.size
  ·left;rw [hi];exact hn hs
  ·right;simp [Fr.one,hi]
 refine ⟨a,b,c,(Fr.one w.heap.size o).add k,Fr.qs (bz s1) hd,Fr.bQ s1 up,Fr.iK ?_ (Fr.bQ s2 up),Sat.cons (Fr.e7 (bz s2)) ?_ y⟩
 ·intro i x hx
  simp only [Fr.one] at hx
  split at hx
  ·rename_i hi;subst hi;cases hx;show (w.heap.push o)[w.heap.size]?=some o;simp
  ·cases hx
 ·simp [kg,Fr.one]
theorem ax.setBlock {w w' :World} {g:bp} {aa:List az} {b:Nat} {o o' :Obj} (h:ax w g (kg b o::aa))
  (hb:w'.heap[b]?=some o') (hne:∀ i,i≠b→w'.heap[i]?=w.heap[i]?) (h1:w'.os=w.os) (h2:w'.tape=w.tape) (h3:w'.output=w.output) (h4:w.drawn≤w'.drawn:=by exact Nat.le_refl _) :
  ax w' g (kg b o' ::aa):=by
 obtain ⟨p,q,r,k,hd,s1,s2,k1,k2,kd,t1,t2,x,y⟩:=h;have x' :k1 b=some o:=x;have Mc:g.h b=none:=by
  rcases hd b with z|z
  ·exact z
  ·rw [t1 b o x'] at z;cases z
 have kb:k2 b=none:=by
  rcases kd b with z|z
  ·rw [x'] at z;cases z
  ·exact z
 have keep:∀ {f:Fr},f b=none→f.sub w.fr→f.sub w'.fr:=fun {f} hf hs i z hz=>by
  have:i≠b:=by rintro rfl;rw [hf] at hz;cases hz
  show w'.heap[i]?=_
  rw [hne i this];exact hs i z hz
 have Oo:∀ {f:Fr},f b=none→f.ea (Fr.one b o'):=fun {f} hf i=>by
  by_cases hi:i=b
  ·left;rw [hi];exact hf
  ·right;simp [Fr.one,hi]
 refine ⟨h1.trans p,h2.trans q,⟨h3.trans r.1,Nat.le_trans r.2 h4⟩,(Fr.one b o').add k2,Fr.qs (Oo Mc) (Fr.eG hd (Fr.bH _) t2),keep Mc s1,Fr.iK ?_ (keep kb (Fr.bQ t2 s2)),
  Sat.cons (Fr.e7 (Oo kb)) ?_ y⟩
 ·intro i z hz
  simp only [Fr.one] at hz
  split at hz
  ·rename_i hi;subst hi;cases hz;exact hb
  ·cases hz
 ·simp [kg,Fr.one]
theorem ax.Zq (w:World):ax w w.CJ []:=⟨rfl,rfl,⟨rfl,Nat.le_refl _⟩,Fr.emp,Fr.e7 (Fr.eA _),Fr.bH _,Fr.dY _,trivial⟩
theorem ax.below {w w' :World} (h:ax w' w.CJ []):RowKit.Below w.heap.size w w' :=by
 obtain ⟨a,b,⟨c,_⟩,_,_,s1,_,_⟩:=h;have hb:∀ i,i<w.heap.size→w'.heap[i]?=w.heap[i]?:=fun i hi=>by
  have:=s1 i w.heap[i] (by simp [World.CJ,World.fr,hi]);rw [Array.getElem?_eq_getElem hi];exact this
 refine ⟨a,b,c,?_,hb⟩
 rcases Nat.eq_zero_or_pos w.heap.size with hz|hz
 ·omega
 ·rcases Nat.lt_or_ge (w.heap.size - 1) w'.heap.size with q|q
  ·omega
  ·have:=hb (w.heap.size - 1) (by omega)
   rw [Array.getElem?_eq_none q,Array.getElem?_eq_getElem (by omega)] at this
   cases this
theorem fA {A:az} {aa:List az}:bA (A::aa) A aa:=.here
theorem zt {A B:az} {aa ζ:List az} (h:bA aa A ζ):bA (B::aa) A (B::ζ):=.there h
theorem gB {α:Type} {a:α} {as bs:List α}:a::as++bs=a::(as++bs):=rfl
theorem gC {α:Type} {as:List α}:[]++as=as:=rfl
theorem gD {α:Type} {as:List α}:as++[]=as:=List.append_nil as
end Go.Sp
end
section
/- Texts of this proof. -/
namespace Go.Sp
def pE (ro:Option Nat):Fence:={ fn:=fun _=>True,depth:=none,alive:=false,round:=ro }
theorem abC (ro:Option Nat) (n:Nat):(pE ro).room n:=fun _ h=>by cases h
def l8 (ro:Option Nat) (P:Program) (todo:List Item) (Q:Exit→Act→World→Prop) (a:Act) (w:World):Prop :=
 ∀ (b:Frame) (cs:List Frame),b.roundOf=ro→(∃ fn,P.funcs[b.fn]?=some fn)→∃ e a' w',Q e a' w' ∧ArrivesIn (Machine.fenced P Fence.wide) P (lone (b.atR a todo) cs w) b [] cs e a' w'
section runs
variable {ro:Option Nat} {P:Program} {Q:Exit→Act→World→Prop} {a:Act} {w:World} {k:List Item}
theorem l8.step {todo todo' :List Item} {a' :Act} {w' :World} (hs:∀ (b:Frame) (cs:List Frame),step P (lone (b.atR a todo) cs w)=.next (lone (b.atR a' todo') cs w'))
  (h:l8 ro P todo' Q a' w'):l8 ro P todo Q a w:=fun b cs hb hf =>
 let ⟨e,a',w',q,r⟩:=h b cs hb hf;⟨e,a',w',q,.of_steps (.one (fenced_wide P _) (hs b cs)) r⟩
theorem l8.nil (h:Q .normal a w):l8 ro P [] Q a w:=fun _ _ _ _=>⟨.normal,a,w,h,StepsIn.refl _⟩
theorem l8.ret (h:Q .ret a w):l8 ro P (.code .ret::k) Q a w:=fun _ _ _ _=>⟨.ret,a,w,h,fun hb=>⟨_,.one (fenced_wide P _) (stepR_ret hb)⟩,fun _=>⟨k,StepsIn.refl _⟩⟩
def zc (ro:Option Nat) (P:Program) (k:List Item) (Q:Exit→Act→World→Prop):Exit→Act→World→Prop
 |.normal,a,w=>l8 ro P k Q a w
 |.panic ch,a,w=>Q (.panic ch) a w
 |.outgrown,a,w=>Q .outgrown a w
 |_,_,_=>False
theorem l8.ops {ops:Array Oper} {l:List Nat} (h:wpOpsIn (pE ro) 0 P ops (zc ro P k Q) l a w):l8 ro P (.inRegion ops l::k) Q a w:=by
 intro b cs hb hf
 obtain ⟨e,a',w',hq,kP⟩:=wp_opsIn l a w h b k cs hb trivial (abC _ _);have kP:ArrivesIn (Machine.fenced P Fence.wide) P (lone (b.atR a (.inRegion ops l::k)) cs w) b k cs e a' w' :=kP
 cases e with
 |normal =>
  obtain ⟨e,EM,w'',q,r⟩:=hq b cs hb hf;exact ⟨e,EM,w'',q,.of_steps kP r⟩
 |panic ch=>exact ⟨_,a',w',hq,kP⟩
 |outgrown=>exact ⟨.outgrown,a',w',hq,kP⟩
 |exit _=>exact hq.elim
 |goto _=>exact hq.elim
 |ret=>exact hq.elim
theorem l8.ZO {ops:Array Oper} {l:List Nat} (h:wpOps P ops (zc none P k Q) l a w):l8 none P (.inRegion ops l::k) Q a w:=by
 intro b cs hb hf
 obtain ⟨e,a',w',hq,kP⟩:=wp_ops l a w h b k cs;have kP:=(arrivesIn_iff (I:=Machine.fenced P Fence.wide) (fun _ _=>stepsIn_wide) hb).2 kP;rw [← Frame.atR_of_none hb] at kP
 cases e with
 |normal =>
  obtain ⟨e,EM,w'',q,r⟩:=hq b cs hb hf;exact ⟨e,EM,w'',q,.of_steps kP r⟩
 |panic ch=>exact ⟨_,a',w',hq,kP⟩
 |outgrown=>exact ⟨.outgrown,a',w',hq,kP⟩
 |exit _=>exact hq.elim
 |goto _=>exact hq.elim
 |ret=>exact hq.elim
def gE (P:Program) (fn:Func) (tmps:Array Value) (R:Ending→World→Prop):List Deferred→FrameMode→World→Prop
 |[],u,w=>Leaves P fn tmps R [] u w
 |d::ds,u,w=>u≠.run∧((∃ r w',d.target=.collected r∧(Instr.takeDeferred r).run P w=.ok [] w' ∧gE P fn tmps R ds u w') ∨
   ∃ fv cap f args,d.target=.fn fv cap∧(invoke d.target d.args).run P w=.ok (.enter f args) w ∧
   CallsD P f args u w fun
    |.returned _,u',w' =>gE P fn tmps R ds (settle u') w'
    |.panicked chain,u',w' =>gE P fn tmps R ds (raised u' chain) w'
    |.outgrown,_,w' =>R .outgrown w')
theorem gE.of {fn:Func} {tmps:Array Value} {R:Ending→World→Prop}:∀ {ds:List Deferred} {u:FrameMode} {w:World},Leaves P fn tmps R ds u w→gE P fn tmps R ds u w
 |[],_,_,h=>h
 |d::ds,u,w,h=>by
  obtain ⟨h1,fv,cap,f,args,h2,h3,h4⟩:=h;refine ⟨h1,.inr ⟨fv,cap,f,args,h2,h3,h4.mono fun e u' w' hR=>?_⟩⟩
  cases e with
  |returned v=>exact gE.of hR
  |panicked ch=>exact gE.of hR
  |outgrown=>exact hR
theorem II {fn:Func} {tmps:Array Value} {R:Ending→World→Prop}:∀ (ds:List Deferred) (u:FrameMode) (w:World) (fr:Frame)
  (cs:List Frame),fr.mode=u→fr.defers=ds→fr.tmps=tmps→P.funcs[fr.fn]?=some fn→fr.kind=.normal→gE P fn tmps R ds u w →
  ∃ e w' fr',R e w' ∧Comes P (lone fr cs w) (lone fr' cs w') e∧fr'.fn=fr.fn∧fr'.leaving P w' e:=by
 intro ds
 induction ds with
 |nil=>exact fun u w fr cs hu hd ht hf hk h=>leaves_steps [] u w fr cs hu hd ht hf hk h
 |cons d ds ih =>
  intro u w fr cs hu hd ht hf hk h
  obtain ⟨hrun,h⟩:=h
  rcases h with ⟨r,w',wo,HS,HH⟩|⟨fv,cap,f,args,wo,hinv,vU⟩
  ·have h1:=step_collected (cs:=cs) (hu ▸ hrun) hd wo HS
   obtain ⟨e',w'',fr',qG,hs',qJ,hl'⟩:=ih u w' { fr with defers:=[]++ds } cs hu rfl ht hf hk HH;exact ⟨e',w'',fr',qG,Comes.of_steps (.one h1) hs',qJ,hl'⟩
  ·have h1:=step_defer (cs:=cs) (hu ▸ hrun) hd wo hinv
   obtain ⟨e,u',w',Tq,hR,wk,GQ,Ag⟩:=vU { fr with defers:=ds } cs hu
   cases e with
   |returned v =>
    have h2:=step_going_returned (c:={ { fr with defers:=ds } with mode:=u' }) (cs:=cs) GQ Ag;obtain ⟨e',w'',fr',qG,hs',qJ,hl'⟩:=ih (settle u') w' { { { fr with defers:=ds } with mode:=u' } with mode:=settle u' } cs rfl rfl ht hf hk hR;exact ⟨e',w'',fr',qG,Comes.of_steps (.head h1 (Steps.trans wk (.one h2))) hs',qJ,hl'⟩
   |panicked chain =>
    have h2:=step_going_panicked (c:={ { fr with defers:=ds } with mode:=u' }) (cs:=cs) Ag;obtain ⟨e',w'',fr',qG,hs',qJ,hl'⟩:=ih (raised u' chain) w' { { { fr with defers:=ds } with mode:=u' } with mode:=raised u' chain } cs rfl rfl ht hf hk hR;exact ⟨e',w'',fr',qG,Comes.of_steps (.head h1 (Steps.trans wk (.one h2))) hs',qJ,hl'⟩
   |outgrown=>exact ⟨.outgrown,w',fr,hR,Outgrown.of_steps (.one h1) wk,rfl,trivial⟩
def Post (ro:Option Nat) (P:Program) (fn:Func) (R:Ending→World→Prop):Exit→Act→World→Prop
 |.normal,a,w=>match ro with|none=>gE P fn a.tmps R a.defers .returning w|some l=>∃ v w',(Instr.endRound l none).run P w=.ok v w' ∧R (.returned v) w'
 |.ret,a,w=>match ro with|none=>gE P fn a.tmps R a.defers .returning w|some l=>∃ v w',(Instr.endRound l (some .ret)).run P w=.ok v w' ∧R (.returned v) w'
 |.exit id,_,w=>match ro with|none=>False|some l=>∃ v w',(Instr.endRound l (some (.exit id))).run P w=.ok v w' ∧R (.returned v) w'
 |.goto _,_,_=>False
 |.panic ch,a,w=>match ro with|none=>gE P fn a.tmps R a.defers (.panicking ch) w|some _=>a.defers=[]∧R (.panicked ch) w
 |.outgrown,_,w=>R .outgrown w
theorem Post.panic {fn:Func} {R:Ending→World→Prop} {ch:List PanicEntry} (hd:a.defers=[]) (h:R (.panicked ch) w):Post ro P fn R (.panic ch) a w:=by
 cases ro with
 |none=>show gE P fn a.tmps R a.defers (.panicking ch) w;rw [hd];exact h
 |some l=>exact ⟨hd,h⟩
theorem RC {f:FuncId} {fn:Func} {c:Code} {args:Array Value} {R:Ending→World→Prop}
  (hf:P.funcs[f]?=some fn) (hb:fn.body=some c)
  (h:l8 none P [.code c] (Post none P fn R) { tmps:=args++Array.replicate (fn.ntmps - args.size) undef,defers:=[] } w):Calls P f args w R:=by
 intro cs
 let b:Frame:={ (default:Frame) with fn:=f,kind:=.normal,roundOf:=none }
 have GK:Frame.enter P f args .normal =
   b.atR { tmps:=args++Array.replicate (fn.ntmps - args.size) undef,defers:=[] } [.code c]:=by
  simp [Frame.enter,Frame.atR,hf,hb,b]
 obtain ⟨e,a',w',hq,kP⟩:=h b cs rfl ⟨fn,hf⟩;rw [← GK] at kP
 cases e with
 |normal =>
  obtain ⟨e',w'',fr',hR,hs,hfn,hl⟩:=II a'.defers .returning w' { b.atR a' [] with mode:=.returning } cs rfl rfl rfl hf rfl hq;exact ⟨e',w'',fr',hR,Comes.of_steps (Steps.trans (StepsIn.steps kP) (.one (stepR_end rfl))) hs,hfn,hl⟩
 |ret =>
  obtain ⟨todo,wm⟩:=kP.1 rfl;obtain ⟨e',w'',fr',hR,hs,hfn,hl⟩:=II a'.defers .returning w' { b.atR a' todo with mode:=.returning } cs rfl rfl rfl hf rfl hq;exact ⟨e',w'',fr',hR,Comes.of_steps wm.steps hs,hfn,hl⟩
 |panic chain =>
  obtain ⟨todo,wm⟩:=kP;obtain ⟨e',w'',fr',hR,hs,hfn,hl⟩:=II a'.defers (.panicking chain) w' { b.atR a' todo with mode:=.panicking chain } cs rfl rfl rfl hf rfl hq;exact ⟨e',w'',fr',hR,Comes.of_steps wm.steps hs,hfn,hl⟩
 |exit id=>exact hq.elim
 |goto l=>exact hq.elim
 |outgrown=>exact ⟨.outgrown,w',b,hq,kP.resolve_left (by simp [b]),rfl,trivial⟩
end runs
def look:List (Nat × Value)→Nat→Option Value
 |[],_=>none
 |(s,v)::σ,t=>match Nat.beq s t with|true=>some v|false=>look σ t
def aE (σ:List (Nat × Value)):Operand→Option Value
 |.tmp t=>look σ t
 |.const v=>some v
 |.global g=>some (.pointer (some ⟨g,0,none⟩))
 |.func f=>some (.func (.func f) #[] #[])
def Sub (σ' σ:List (Nat × Value)):Prop:=∀ t v,look σ' t=some v→look σ t=some v
theorem Sub.nil {σ:List (Nat × Value)}:Sub [] σ:=fun _ _ h=>by cases h
theorem Sub.refl {σ:List (Nat × Value)}:Sub σ σ:=fun _ _ h=>h
theorem Sub.cons {σ σ' :List (Nat × Value)} {t:Nat} {v:Value} (h:look σ t=some v) (hs:Sub σ' σ):Sub ((t,v)::σ') σ:=fun s u hu=>by
 simp only [look] at hu
 split at hu
 ·rename_i hb;cases hu;rw [← Nat.eq_of_beq_eq_true hb];exact h
 ·exact hs s u hu
def Fits (a:Act) (n:Nat) (σ:List (Nat × Value)):Prop:=a.tmps.size=n∧∀ t v,look σ t=some v→a.tmps[t]?=some v
theorem Fits.sub {a:Act} {n:Nat} {σ σ' :List (Nat × Value)} (h:Fits a n σ) (hs:Sub σ' σ):Fits a n σ' :=⟨h.1,fun t v x=>h.2 t v (hs t v x)⟩
theorem Fits.eval {a:Act} {n:Nat} {σ:List (Nat × Value)} (h:Fits a n σ) {x:Operand} {v:Value} (hx:aE σ x=some v):a.eval x=v:=by
 cases x with
 |tmp t=>have:=h.2 t v hx;simp only [Act.eval,Array.getD_eq_getD_getElem?,this,Option.getD_some]
 |const u=>simpa [aE,Act.eval] using hx
 |global g=>simpa [aE,Act.eval] using hx
 |func f=>simpa [aE,Act.eval] using hx
theorem Fits.put {a:Act} {n d:Nat} {σ:List (Nat × Value)} {v:Value} (h:Fits a n σ) (hd:Nat.blt d n=true):Fits (a.put (some d) v) n ((d,v)::σ):=by
 have ny :d<a.tmps.size:=by rw [h.1];exact of_decide_eq_true (by simpa [Nat.blt_eq] using hd)
 refine ⟨by simp [Act.put,h.1],fun t u hu=>?_⟩;simp only [look] at hu
 split at hu
 ·rename_i hb;cases hu;have:=Nat.eq_of_beq_eq_true hb;subst this
  simp [Act.put,Array.getElem?_setIfInBounds_self_of_lt ny]
 ·rename_i hb
  have hne:d≠t:=by rintro rfl;simp at hb
  have:=h.2 t u hu;simp only [Act.put,Array.getElem?_setIfInBounds_ne hne,this]
def oN (σ:List (Nat × Value)) (ρ:Operand→Value):Prop:=∀ x v,aE σ x=some v→ρ x=v
theorem Fits.rX {a:Act} {n:Nat} {σ:List (Nat × Value)} (h:Fits a n σ):oN σ a.eval:=fun _ _ hx=>h.eval hx
def aK (P:Program) (op:Op) (σ:List (Nat × Value)) (g:bp) (aa:List az) (v:Value) (au :List az):Prop :=
 ∀ (o:Oper) (ρ:Operand→Value) (w:World),o.op=op→oN σ ρ→ax w g aa→∃ w',(execOp ρ o).run P w=.ok (.value v) w' ∧ax w' g au
def mB (P:Program) (op:Op) (σ:List (Nat × Value)) (g:bp) (aa:List az) (au :List az):Prop :=
 ∀ (o:Oper) (ρ:Operand→Value) (w:World),o.op=op→oN σ ρ→ax w g aa→∃ w',(execOp ρ o).run P w=.ok .skip w' ∧ax w' g au
def KD (P:Program) (op:Op) (σ:List (Nat × Value)) (g:bp) (aa:List az) (au :List az):Prop :=
 ∀ (o:Oper) (ρ:Operand→Value) (w:World),o.op=op→oN σ ρ→ax w g aa→∃ w' u,(execOp ρ o).run P w=.ok u w' ∧(u=.skip∨∃ v,u=.value v)∧ax w' g au
theorem mB.v {P:Program} {op:Op} {σ:List (Nat × Value)} {g:bp} {aa au :List az} (h:mB P op σ g aa au):KD P op σ g aa au :=fun o ρ w h1 h2 h3=>let ⟨w',a,b⟩:=h o ρ w h1 h2 h3;⟨w',.skip,a,.inl rfl,b⟩
def S (ro:Option Nat) (P:Program) (fn:Func) (n:Nat) (R:Ending→World→Prop) (todo:List Item) (σ:List (Nat × Value)) (D:List Deferred) (g:bp) (aa:List az):Prop :=
 ∀ a w,Fits a n σ→a.defers=D→ax w g aa→l8 ro P todo (Post ro P fn R) a w
def O (ro:Option Nat) (P:Program) (fn:Func) (n:Nat) (R:Ending→World→Prop) (ops:Array Oper) (l:List Nat) (k:List Item) (σ:List (Nat × Value)) (D:List Deferred) (g:bp) (aa:List az):Prop :=
 ∀ a w,Fits a n σ→a.defers=D→ax w g aa→wpOpsIn (pE ro) 0 P ops (zc ro P k (Post ro P fn R)) l a w
section rules
variable {ro:Option Nat} {P:Program} {fn:Func} {n:Nat} {R:Ending→World→Prop} {k:List Item} {σ σ' :List (Nat × Value)} {D:List Deferred} {g:bp} {aa au :List az}
theorem S.weaken {todo:List Item} (hs:Sub σ' σ) (h:S ro P fn n R todo σ' D g aa):S ro P fn n R todo σ D g aa:=fun a w hf hd hw=>h a w (hf.sub hs) hd hw
theorem S.perm {todo:List Item} (p:aa.Perm au) (h:S ro P fn n R todo σ D g au):S ro P fn n R todo σ D g aa:=fun a w hf hd hw=>h a w hf hd (hw.perm p)
theorem S.eJ {todo:List Item} {A:az} {ζ:List az} (s:bA aa A ζ) (h:S ro P fn n R todo σ D g (A::ζ)):S ro P fn n R todo σ D g aa:=S.perm s.perm h
theorem S.imp {todo:List Item} (hs:∀ k,Sat aa k→Sat au k) (h:S ro P fn n R todo σ D g au):S ro P fn n R todo σ D g aa:=fun a w hf hd hw=>h a w hf hd (hw.imp hs)
theorem S.Cy {todo:List Item} {A:az} {ζ:List az} (hs:∀ k,A k→Sat ζ k) (h:S ro P fn n R todo σ D g (ζ++aa)):S ro P fn n R todo σ D g (A::aa) :=
 fun a w hf hd hw=>h a w hf hd (hw.Cy hs)
theorem S.FJ {todo:List Item} {α:Type} {A:α→az} (h:∀ x,S ro P fn n R todo σ D g (A x::aa)):S ro P fn n R todo σ D g ((fun k=>∃ x,A x k)::aa) :=
 fun a w hf hd hw=>by
  obtain ⟨p,q,r,k,d,s1,s2,k1,k2,kd,t1,t2,⟨x,hx⟩,y⟩:=hw;exact h x a w hf hd ⟨p,q,r,k,d,s1,s2,k1,k2,kd,t1,t2,hx,y⟩
theorem S.freeze {todo:List Item} {A:az} (h:∀ k:Fr,A k→g.h.ea k→S ro P fn n R todo σ D (g.add k) aa):S ro P fn n R todo σ D g (A::aa) :=
 fun a w hf hd hw=>by
  obtain ⟨k,hk,eR,hw'⟩:=hw.freeze;exact h k hk eR a w hf hd hw'
theorem S.wY {todo:List Item} {A:az} {k:Fr} (hk:A k) (eR:g.h.ea k) (h:S ro P fn n R todo σ D g (A::aa)):S ro P fn n R todo σ D (g.add k) aa :=
 fun a w hf hd hw=>h a w hf hd (hw.wY hk eR)
theorem S.seq {x y:Code} (h:S ro P fn n R (.code x::.code y::k) σ D g aa):S ro P fn n R (.code (.seq x y)::k) σ D g aa :=
 fun a w hf hd hw=>.step (fun _ _=>stepR_seq) (h a w hf hd hw)
theorem S.skip (h:S ro P fn n R k σ D g aa):S ro P fn n R (.code .skip::k) σ D g aa:=fun a w hf hd hw=>.step (fun _ _=>stepR_skip) (h a w hf hd hw)
theorem S.inBlock {id:Nat} (h:S ro P fn n R k σ D g aa):S ro P fn n R (.inBlock id::k) σ D g aa:=fun a w hf hd hw=>.step (fun _ _=>stepR_inBlock) (h a w hf hd hw)
theorem S.block {id:Nat} {c:Code} (h:S ro P fn n R (.code c::.inBlock id::k) σ D g aa):S ro P fn n R (.code (.block id c)::k) σ D g aa :=
 fun a w hf hd hw=>.step (fun _ _=>stepR_block) (h a w hf hd hw)
theorem S.exit {id:Nat} {k' :List Item} (hk:exitTo id k=some k') (h:S ro P fn n R k' σ D g aa):S ro P fn n R (.code (.exit id)::k) σ D g aa :=
 fun a w hf hd hw=>.step (fun _ _=>stepR_exit hk) (h a w hf hd hw)
theorem S.Cg {c:Operand} {x y:Code} (hc:aE σ c=some (.bool true)) (h:S ro P fn n R (.code x::k) σ D g aa):S ro P fn n R (.code (.cond c x y)::k) σ D g aa :=
 fun a w hf hd hw=>.step (fun _ _=>stepR_cond (hf.eval hc)) (h a w hf hd hw)
theorem S.pK {c:Operand} {x y:Code} (hc:aE σ c=some (.bool false)) (h:S ro P fn n R (.code y::k) σ D g aa):S ro P fn n R (.code (.cond c x y)::k) σ D g aa :=
 fun a w hf hd hw=>.step (fun _ _=>stepR_cond (hf.eval hc)) (h a w hf hd hw)
theorem S.uD {c:Operand} {x y:Code} {b:Bool} (hc:aE σ c=some (.bool b)) (ht:b=true→S ro P fn n R (.code x::k) σ D g aa) (hf:b=false→S ro P fn n R (.code y::k) σ D g aa) :
  S ro P fn n R (.code (.cond c x y)::k) σ D g aa:=by
 cases b
 ·exact S.pK hc (hf rfl)
 ·exact S.Cg hc (ht rfl)
theorem S.xT {c:Operand} {x y:Code} {p:Prop} [Decidable p] (hc:aE σ c=some (.bool (decide p))) (ht:p→S ro P fn n R (.code x::k) σ D g aa) (hf:¬p→S ro P fn n R (.code y::k) σ D g aa) :
  S ro P fn n R (.code (.cond c x y)::k) σ D g aa :=
 S.uD hc (fun h=>ht (of_decide_eq_true h)) (fun h=>hf (of_decide_eq_false h))
theorem S.loop {ι:Type} {c:Code} (φ:ι→Prop) (σs:ι→List (Nat × Value)) (jC:ι→List az) (μ:ι→Nat) (jB:ι) (h₀:φ jB) (tG:Sub (σs jB) σ) (jJ:aa=jC jB)
  (round:∀ x,φ x→(∀ y,φ y→μ y<μ x→S ro P fn n R (.inLoop c::k) (σs y) D g (jC y))→S ro P fn n R (.code c::.inLoop c::k) (σs x) D g (jC x)) :
  S ro P fn n R (.code (.loop c)::k) σ D g aa:=by
 have key:∀ m x,μ x=m→φ x→S ro P fn n R (.code c::.inLoop c::k) (σs x) D g (jC x):=by
  intro m
  induction m using Nat.strongRecOn with
  |_ m ih =>
   intro x hm hx
   refine round x hx fun y hy hlt a w hf hd hw=>.step (fun _ _=>stepR_inLoop) (ih (μ y) (hm ▸ hlt) y rfl hy a w hf hd hw)
 subst jJ;exact fun a w hf hd hw=>.step (fun _ _=>stepR_loop) (key _ jB rfl h₀ a w (hf.sub tG) hd hw)
theorem S.region {id:Nat} {ops:Array Oper} {l:List Nat} (hl:List.range ops.size=l) (h:O ro P fn n R ops l k σ D g aa):S ro P fn n R (.code (.region id ops false)::k) σ D g aa :=
 fun a w hf hd hw=>.step (fun _ _=>stepR_region) (.ops (hl ▸ h a w hf hd hw))
theorem O.nil {ops:Array Oper} (h:S ro P fn n R k σ D g aa):O ro P fn n R ops [] k σ D g aa:=fun a w hf hd hw=>h a w hf hd hw
theorem O.weaken {ops:Array Oper} {l:List Nat} (hs:Sub σ' σ) (h:O ro P fn n R ops l k σ' D g aa):O ro P fn n R ops l k σ D g aa:=fun a w hf hd hw=>h a w (hf.sub hs) hd hw
def AZ (ops:Array Oper) (i n:Nat):Option (Nat × Op) :=
 match ops[i]? with
 |some ⟨some d,op,_,_,_,none⟩=>match Nat.blt d n with|true=>some (d,op)|false=>none
 |_=>none
def nN (ops:Array Oper) (i:Nat):Option Op :=
 match ops[i]? with
 |some ⟨none,op,_,_,_,none⟩=>some op
 |_=>none
def u0 (ops:Array Oper) (i n:Nat):Option (Nat × Op × Nat × Bool) :=
 match ops[i]? with
 |some ⟨some d,op,_,_,_,some (j,want)⟩ =>
  match Nat.blt d n,ops[j]? with
  |true,some o=>match o.dst with|some t=>some (d,op,t,want)|none=>none
  |_,_=>none
 |_=>none
theorem Dq {ops:Array Oper} {i n d:Nat} {op:Op} (h:AZ ops i n=some (d,op)) :
  ∃ o,ops[i]?=some o∧o.dst=some d∧o.op=op∧o.guard=none∧Nat.blt d n=true:=by
 unfold AZ at h
 split at h
 ·rename_i d' op' _ _ _ ho
  split at h
  ·rename_i hb;cases h;exact ⟨_,ho,rfl,rfl,rfl,hb⟩
  ·cases h
 ·cases h
theorem tS {ops:Array Oper} {i:Nat} {op:Op} (h:nN ops i=some op):∃ o,ops[i]?=some o∧o.dst=none∧o.op=op∧o.guard=none:=by
 unfold nN at h
 split at h
 ·rename_i op' _ _ _ ho;cases h;exact ⟨_,ho,rfl,rfl,rfl⟩
 ·cases h
theorem u3 {ops:Array Oper} {i n d t:Nat} {op:Op} {want:Bool} (h:u0 ops i n=some (d,op,t,want)) :
  ∃ o j oj,ops[i]?=some o∧o.dst=some d∧o.op=op∧o.guard=some (j,want)∧ops[j]?=some oj∧oj.dst=some t∧Nat.blt d n=true:=by
 unfold u0 at h
 split at h
 ·rename_i d' op' _ _ _ j want' ho
  split at h
  ·rename_i oj hb hj
   split at h
   ·rename_i t' ht;cases h;exact ⟨_,_,_,ho,rfl,rfl,rfl,hj,ht,hb⟩
   ·cases h
  ·cases h
 ·cases h
theorem aeO {ops:Array Oper} {a:Act} {σ:List (Nat × Value)} {n j t:Nat} {oj:Oper} {b:Bool} (hf:Fits a n σ) (hj:ops[j]?=some oj) (ht:oj.dst=some t) (hl:look σ t=some (.bool b)) :
  yielded ops a.tmps j=some b:=by
 simp [yielded,hj,ht,hf.2 t _ hl]
inductive cA (ops:Array Oper) (i n:Nat) (σ:List (Nat × Value)):Nat→Op→Prop
 |p {d:Nat} {op:Op} (h:AZ ops i n=some (d,op)):cA ops i n σ d op
 |g {d t:Nat} {op:Op} {b:Bool} (h:u0 ops i n=some (d,op,t,b)) (hl:look σ t=some (.bool b)):cA ops i n σ d op
theorem cA.spec {ops:Array Oper} {i n d:Nat} {σ:List (Nat × Value)} {op:Op} (h:cA ops i n σ d op) :
  ∃ o,ops[i]?=some o∧o.dst=some d∧o.op=op∧(∀ a,Fits a n σ→Region.wanted o (yielded ops a.tmps)=true)∧Nat.blt d n=true:=by
 cases h with
 |p h =>
  obtain ⟨o,a,b,c,d,e⟩:=Dq h;exact ⟨o,a,b,c,fun _ _=>by simp [Region.wanted,d],e⟩
 |g h hl =>
  obtain ⟨o,j,oj,hi,iO,hop,hg,hj,ht,hb⟩:=u3 h;exact ⟨o,hi,iO,hop,fun a hf=>by simp [Region.wanted,hg,aeO hf hj ht hl],hb⟩
theorem Oi {P:Program} {o:Oper} {ρ:Operand→Value} {w w' :World} {v:Value} (h:(execOp ρ o).run P w=.ok (.value v) w'):∀ c,o.op≠.defer c:=fun c hc=>by
 simp only [execOp,hc,Sem.run_bind] at h
 cases hr:(resolve ρ c o.type).run P w<;>simp [hr,Result.andThen] at h
theorem Zj {P:Program} {o:Oper} {ρ:Operand→Value} {w w' :World} (h:(execOp ρ o).run P w=.ok .skip w'):∀ c,o.op≠.defer c:=fun c hc=>by
 simp only [execOp,hc,Sem.run_bind] at h
 cases hr:(resolve ρ c o.type).run P w<;>simp [hr,Result.andThen] at h
theorem O.vL {ro:Option Nat} {P:Program} {ops:Array Oper} {i:Nat} {o:Oper} {l:List Nat} {a:Act} {w:World} {Q:Exit→Act→World→Prop} {r:Result Next} (hi:ops[i]?=some o) (hg:Region.wanted o (yielded ops a.tmps)=true)
  (fm:∀ c,o.op≠.defer c) (hr:(execOp a.eval o).run P w=r) (h:o.uponIn (pE ro) 0 P a (wpOpsIn (pE ro) 0 P ops Q l) Q r):wpOpsIn (pE ro) 0 P ops Q (i::l) a w:=by
 simp only [wpOpsIn,hi,hg,if_true];exact ⟨fun _ _=>trivial,by rw [Oper.semAt_eq _ _ _ fm,hr];exact h⟩
theorem Fq {ro:Option Nat} {P:Program} {f:FuncId} {args:Array Value} {w:World} {K:Ending→World→Prop} (h:Calls P f args w K):((pE ro).depth.isSome=true→1≤0)∧CallsIn (pE ro) (0 - 1) P f args w K :=
 ⟨fun h=>(by cases h),(callsIn_wide (n:=0)).2 h⟩
theorem O.op {ops:Array Oper} {i d:Nat} {l:List Nat} {op:Op} {v:Value} (ho:cA ops i n σ d op) (eb:aK P op σ g aa v au)
  (h:O ro P fn n R ops l k ((d,v)::σ) D g au):O ro P fn n R ops (i::l) k σ D g aa:=by
 intro a w hf hd hw
 obtain ⟨o,hi,iO,hop,hg,hb⟩:=ho.spec;obtain ⟨w',hrun,hw'⟩:=eb o a.eval w hop hf.rX hw;refine O.vL hi (hg a hf) (Oi hrun) hrun ?_;rw [Oper.uponIn_value,iO];exact h _ _ (hf.put hb) hd hw'
theorem O.eg {ops:Array Oper} {i:Nat} {l:List Nat} {op:Op} (ho:nN ops i=some op) (eb:mB P op σ g aa au)
  (h:O ro P fn n R ops l k σ D g au):O ro P fn n R ops (i::l) k σ D g aa:=by
 intro a w hf hd hw
 obtain ⟨o,hi,iO,hop,hg⟩:=tS ho;obtain ⟨w',hrun,hw'⟩:=eb o a.eval w hop hf.rX hw;refine O.vL hi (by simp [Region.wanted,hg]) (Zj hrun) hrun ?_;rw [Oper.uponIn_skip,iO];exact h _ _ hf hd hw'
def tQ (b:Bool):Value→Bool|.bool c=>c !=b|_=>true
theorem O.Zv {ops:Array Oper} {i d t:Nat} {l:List Nat} {op:Op} {b:Bool} {v:Value} (ho:u0 ops i n=some (d,op,t,b)) (hl:look σ t=some v) (hv:tQ b v=true)
  (h:O ro P fn n R ops l k ((d,undef)::σ) D g aa):O ro P fn n R ops (i::l) k σ D g aa:=by
 intro a w hf hd hw
 obtain ⟨o,j,oj,hi,iO,hop,hg,hj,ht,hb⟩:=u3 ho;have Vd:Region.wanted o (yielded ops a.tmps)=false:=by
  have:=hf.2 t _ hl
  cases v<;>simp [Region.wanted,hg,yielded,hj,ht,this]
  cases b<;>simp_all [tQ]
 simp only [wpOpsIn,hi,Vd,Bool.false_eq_true,if_false];rw [iO];exact ⟨fun _ _=>trivial,h _ _ (hf.put hb) hd hw⟩
theorem O.zF {ops:Array Oper} {l:List Nat} {b:Bool} (t:Nat) (hl:look σ t=some (.bool b)) (ht:b=true→O ro P fn n R ops l k ((t,.bool true)::σ) D g aa)
  (hf:b=false→O ro P fn n R ops l k ((t,.bool false)::σ) D g aa):O ro P fn n R ops l k σ D g aa:=by
 cases b
 ·exact O.weaken (Sub.cons hl Sub.refl) (hf rfl)
 ·exact O.weaken (Sub.cons hl Sub.refl) (ht rfl)
theorem O.RD {ops:Array Oper} {l:List Nat} {p:Prop} [Decidable p] (t:Nat) (hl:look σ t=some (.bool (decide p))) (ht:p→O ro P fn n R ops l k ((t,.bool true)::σ) D g aa)
  (hf:¬p→O ro P fn n R ops l k ((t,.bool false)::σ) D g aa):O ro P fn n R ops l k σ D g aa :=
 O.zF t hl (fun h=>ht (of_decide_eq_true h)) (fun h=>hf (of_decide_eq_false h))
theorem abz {t:Tmp} {v:Value} {a:Act} {w:World} (hr:fn.results=#[.tmp t]) (hf:Fits a n σ) (hl:look σ t=some v):(results fn a.tmps).run P w=.ok v w:=by
 have:=hf.2 t v hl
 simp [results,hr,Array.getD_eq_getD_getElem?,this]
theorem S.ret {t:Tmp} {v:Value} (hr:fn.results=#[.tmp t]) (hl:look σ t=some v) (h:∀ w,ax w g aa→R (.returned v) w):S none P fn n R (.code .ret::k) σ [] g aa:=by
 intro a w hf hd hw
 refine .ret ?_;simp only [Post,hd,gE,Leaves];exact ⟨v,abz hr hf hl,h w hw⟩
theorem S.gl (hr:fn.results=#[]) (h:∀ w,ax w g aa→R (.returned (.tuple #[])) w):S none P fn n R [] σ [] g aa:=by
 intro a w hf hd hw
 refine .nil ?_;simp only [Post,hd,gE,Leaves];exact ⟨.tuple #[],by simp [results,hr],h w hw⟩
theorem S.kA {t s:Tmp} {v u:Value} (hr:fn.results=#[.tmp t,.tmp s]) (hl:look σ t=some v) (hl' :look σ s=some u) (h:∀ w,ax w g aa→R (.returned (.tuple #[v,u])) w) :
  S none P fn n R (.code .ret::k) σ [] g aa:=by
 intro a w hf hd hw
 refine .ret ?_;simp only [Post,hd,gE,Leaves];refine ⟨.tuple #[v,u],?_,h w hw⟩
 simp [results,hr,Array.getD_eq_getD_getElem?,hf.2 t v hl,hf.2 s u hl']
end rules
def aj (P:Program) (f:FuncId) (args:Array Value) (r:Fr) (aa:List az) (Post:Ending→List az→Prop):Prop :=
 ∀ g:bp,r.sub g.h→∀ w,ax w g aa→Calls P f args w fun e w' =>∃ au,Post e au ∧ax w' g au
def aF (K:Value→List az→Prop):Ending→List az→Prop
 |.returned v,aa=>K v aa
 |_,_=>False
def dg (K:Value→List az→Prop) (X:List PanicEntry→List az→Prop):Ending→List az→Prop
 |.returned v,aa=>K v aa
 |.panicked ch,aa=>X ch aa
 |.outgrown,_=>False
section con
variable {ro:Option Nat} {P:Program} {fn:Func} {n:Nat} {f:FuncId} {args:Array Value} {r:Fr} {aa:List az} {Post:Ending→List az→Prop}
def slots:List Value→Nat→List (Nat × Value)
 |[],_=>[]
 |v::vs,i=>(i,v)::slots vs (i+1)
theorem IF:∀ (vs:List Value) (i t:Nat) (v:Value),look (slots vs i) t=some v→i≤t∧vs[t - i]?=some v
 |[],_,_,_,h=>by cases h
 |u::vs,i,t,v,h=>by
  simp only [slots,look] at h
  split at h
  ·rename_i hb;cases h;have:=Nat.eq_of_beq_eq_true hb;subst this;simp
  ·rename_i hb
   have hne:i≠t:=by rintro rfl;simp at hb
   obtain ⟨h1,h2⟩:=IF vs (i+1) t v h;have:t - i=(t - (i+1))+1:=by omega
   exact ⟨by omega,by rw [this];simpa using h2⟩
theorem aj.of {c:Code} (vs:List Value) (ha:args=vs.toArray) (hf:P.funcs[f]?=some fn) (hb:fn.body=some c) (hn:fn.ntmps=n) (hle:Nat.ble vs.length n=true)
  (h:∀ g:bp,r.sub g.h→∀ R:Ending→World→Prop,(∀ e au w',Post e au →ax w' g au →R e w')→S none P fn n R [.code c] (slots vs 0) [] g aa):aj P f args r aa Post:=by
 intro g hr w hw
 subst ha hn;refine RC hf hb (h g hr _ (fun e au w' hp hh=>⟨au,hp,hh⟩) _ w ⟨?_,?_⟩ rfl hw)
 ·have:vs.length≤fn.ntmps:=Nat.le_of_ble_eq_true hle
  simp;omega
 ·intro t v hl
  obtain ⟨_,h2⟩:=IF vs 0 t v hl;simp only [Nat.sub_zero] at h2;have:t<vs.length:=by
   rcases Nat.lt_or_ge t vs.length with q|q
   ·exact q
   ·rw [List.getElem?_eq_none q] at h2;cases h2
  rw [Array.getElem?_append_left (by simpa using this)]
  simpa using h2
theorem aj.mono {Post' :Ending→List az→Prop} (h:aj P f args r aa Post) (hp:∀ e au,Post e au →Post' e au):aj P f args r aa Post' :=
 fun g hr w hw=>(h g hr w hw).mono fun _ _ ⟨au,x,y⟩=>⟨au,hp _ _ x,y⟩
theorem aj.sub {r' :Fr} (h:aj P f args r aa Post) (hs:r.sub r'):aj P f args r' aa Post:=fun g hr w hw=>h g (Fr.bQ hs hr) w hw
theorem aj.frame {ζ:List az} (h:aj P f args r aa Post):aj P f args r (aa++ζ) fun e au =>∃ eX,Post e eX∧au =eX++ζ :=
 fun g hr w hw=>by
  obtain ⟨k,hk,hd,hw'⟩:=hw.CD;exact (h (g.add k) (Fr.bQ hr (Fr.fi _ _)) w hw').mono fun _ _ ⟨au,x,y⟩=>⟨au ++ζ,⟨au,x,rfl⟩,y.JZ hk hd⟩
end con
def ed (P:Program) (f:FuncId):Bool :=
 match P.funcs[f]? with
 | some fn => fn.name != "runtime.NumGoroutine" && fn.body.isSome
 |none=>false
def e8 (σ:List (Nat × Value)):List Operand→Option (List Value)
 |[]=>some []
 |x::xs=>match aE σ x,e8 σ xs with|some v,some vs=>some (v::vs)|_,_=>none
theorem uJ {σ:List (Nat × Value)} {ρ:Operand→Value} (hk:oN σ ρ):∀ {xs:List Operand} {vs:List Value},e8 σ xs=some vs→xs.map ρ=vs
 |[],_,h=>by cases h;rfl
 |x::xs,vs,h=>by
  simp only [e8] at h
  split at h
  ·rename_i v us hv gP;cases h;simp [hk x v hv,uJ hk gP]
  ·cases h
theorem JO {P:Program} {f:FuncId} (hc:ed P f=true) (args:Array Value) (w:World):(callFunc f args).run P w=.ok (.enter f args) w:=by
 unfold ed at hc
 split at hc
 ·rename_i fn hf
  simp only [Bool.and_eq_true,bne_iff_ne,ne_eq] at hc;have h2:fn.body≠none:=by intro hb;rw [hb] at hc;simp at hc
  simp [callFunc,hf,hc.1,h2]
 ·cases hc
theorem DO {P:Program} {f:FuncId} {first cap:Array Value} {ρ:Operand→Value} {o:Oper} {x:Operand} {xs:Array Operand} {ts:Array TypeId} (ho:o.op=.call ⟨.value x,xs,ts⟩)
  (hx:ρ x=.func (.func f) first cap) (hc:ed P f=true) (w:World):(execOp ρ o).run P w=.ok (.enter f (first++xs.map ρ++cap)) w:=by
 simp [execOp,ho,resolve,hx,Deferred.ofValue,invoke,JO hc]
section calls
variable {ro:Option Nat} {P:Program} {fn:Func} {n:Nat} {R:Ending→World→Prop} {k:List Item} {σ:List (Nat × Value)} {D:List Deferred} {g:bp} {aa ζ:List az}
 {ops:Array Oper} {i d:Nat} {l:List Nat} {f:FuncId} {x:Operand} {xs:Array Operand} {ts:Array TypeId} {b9:List Value} {K:Value→List az→Prop}
theorem O.call {first cap:Array Value} (ho:cA ops i n σ d (.call ⟨.value x,xs,ts⟩)) (hx:aE σ x=some (.func (.func f) first cap)) (hc:ed P f=true)
  (hv:e8 σ xs.toList=some b9) {args:Array Value} (hargs:first++b9.toArray++cap=args) (con:aj P f args g.h aa (aF K))
  (h:∀ v au,K v au →O ro P fn n R ops l k ((d,v)::σ) D g (au ++ζ)):O ro P fn n R ops (i::l) k σ D g (aa++ζ):=by
 intro a w hf hd hw
 obtain ⟨o,hi,iO,hop,hg,hb⟩:=ho.spec;have hm:xs.map a.eval=b9.toArray:=by
  rw [← uJ hf.rX hv,← Array.toList_map]
 refine O.vL hi (hg a hf) (by rw [hop];intro c hc;cases hc) (DO hop (hf.rX x _ hx) hc w) ?_;rw [Oper.uponIn_enter,hm,hargs];refine Fq ?_;refine (con.frame (ζ:=ζ) g (Fr.bH _) w hw).mono fun e w' hh=>?_;obtain ⟨au,⟨eX,hp,rfl⟩,hw'⟩:=hh
 cases e with
 |returned v =>
  show wpOpsIn (pE ro) 0 P ops _ l (a.put o.dst v) w'
  rw [iO];exact h v eX hp _ _ (hf.put hb) hd hw'
 |panicked _=>exact hp.elim
 |outgrown=>exact hp.elim
theorem O.Fp {first cap:Array Value} {X:List PanicEntry→List az→Prop} (ho:cA ops i n σ d (.call ⟨.value x,xs,ts⟩)) (hx:aE σ x=some (.func (.func f) first cap)) (hc:ed P f=true)
  (hv:e8 σ xs.toList=some b9) {args:Array Value} (hargs:first++b9.toArray++cap=args) (con:aj P f args g.h aa (dg K X))
  (hp:∀ ch au w,X ch au →ax w g (au ++ζ)→R (.panicked ch) w)
  (h:∀ v au,K v au →O ro P fn n R ops l k ((d,v)::σ) [] g (au ++ζ)):O ro P fn n R ops (i::l) k σ [] g (aa++ζ):=by
 intro a w hf hd hw
 obtain ⟨o,hi,iO,hop,hg,hb⟩:=ho.spec;have hm:xs.map a.eval=b9.toArray:=by
  rw [← uJ hf.rX hv,← Array.toList_map]
 refine O.vL hi (hg a hf) (by rw [hop];intro c hc;cases hc) (DO hop (hf.rX x _ hx) hc w) ?_;rw [Oper.uponIn_enter,hm,hargs];refine Fq ?_;refine (con.frame (ζ:=ζ) g (Fr.bH _) w hw).mono fun e w' hh=>?_;obtain ⟨au,⟨eX,hq,rfl⟩,hw'⟩:=hh
 cases e with
 |returned v =>
  show wpOpsIn (pE ro) 0 P ops _ l (a.put o.dst v) w'
  rw [iO];exact h v eX hq _ _ (hf.put hb) hd hw'
 |panicked ch =>
  exact Post.panic hd (hp ch eX w' hq hw')
 |outgrown=>exact hq.elim
end calls
end Go.Sp
end
end
section
/- Texts of this proof, one behind the other. -/
section
/- Texts of this proof, one behind the other. -/
section
/- Texts of this proof. -/
namespace Go.Sp
def Fr.cell (h:Fr) (a:Addr):Option Value :=
 match h a.block with
 |some (.cells c _ _)=>if a.spot.isSome then none else c[a.off]?
 |_=>none
theorem Fr.uC {h k:Fr} (s:h.sub k) {a:Addr} {v:Value} (x:h.cell a=some v):k.cell a=some v:=by
 unfold Fr.cell at *
 split at x
 ·rename_i c t f hb;rw [s _ _ hb];exact x
 ·cases x
def flat (P:Program) (t:TypeId):Bool :=
 match P.underlying t with
 |some (.struct _)|some (.array ..)=>false
 |some _=>true
 |none=>false
theorem ve {P:Program} {t:TypeId} (h:flat P t=true) (w:World):(isAgg t).run P w=.ok false w:=by
 unfold flat at h
 split at h
 ·cases h
 ·cases h
 ·rename_i d h1 h2 hd
  rw [isAgg,Sem.run_bind,run_underlying hd]
  cases d<;>first|rfl|exact (h1 _ rfl).elim|exact (h2 _ _ rfl).elim
 ·cases h
section
variable {P:Program} {σ:List (Nat × Value)} {g:bp} {aa:List az}
theorem aK.run {op:Op} {v:Value} (h:∀ (o:Oper) (ρ:Operand→Value) (w:World),o.op=op→oN σ ρ→(execOp ρ o).run P w=.ok (.value v) w):aK P op σ g aa v aa :=
 fun o ρ w ho hk hw=>⟨w,h o ρ w ho hk,hw⟩
theorem aK.Y7 {x:Operand} {v:Value} (hx:aE σ x=some v):aK P (.move x) σ g aa v aa:=.run fun o ρ w ho hk=>by simp [execOp,ho,hk x v hx]
theorem aK.as {x:Operand} {v:Value} (hx:aE σ x=some v):aK P (.assign x) σ g aa v aa:=.run fun o ρ w ho hk=>by simp [execOp,ho,hk x v hx]
theorem aK.Z7 {c x y:Operand} {v:Value} (hc:aE σ c=some (.bool true)) (hx:aE σ x=some v):aK P (.pick c x y) σ g aa v aa :=
 .run fun o ρ w ho hk=>by simp [execOp,ho,hk x v hx,hk c _ hc,asBool]
theorem aK.Z6 {c x y:Operand} {v:Value} (hc:aE σ c=some (.bool false)) (hx:aE σ y=some v):aK P (.pick c x y) σ g aa v aa :=
 .run fun o ρ w ho hk=>by simp [execOp,ho,hk y v hx,hk c _ hc,asBool]
theorem aK.mr {op:BinOp} {t u:TypeId} {x y:Operand} {j:IntKind} {a b:Int} {v:Value} (hx:aE σ x=some (.int j a)) (hy:aE σ y=some (.int j b))
  (h:∀ w,(Go.binOp op t (.int j a) (.int j b)).run P w=.ok v w):aK P (.binOp op t x y u) σ g aa v aa :=
 .run fun o ρ w ho hk=>by
  have:=h w
  simp [execOp,ho,hk x _ hx,hk y _ hy,eqGuard,this]
theorem aK.add {t u:TypeId} {x y:Operand} {j:IntKind} {a b:Int} (hx:aE σ x=some (.int j a)) (hy:aE σ y=some (.int j b)) (hw:j.wrap (a+b)=a+b) :
  aK P (.binOp .add t x y u) σ g aa (.int j (a+b)) aa:=.mr hx hy fun w=>by simp [Go.binOp,Op.intArith,hw]
theorem aK.sub {t u:TypeId} {x y:Operand} {j:IntKind} {a b:Int} (hx:aE σ x=some (.int j a)) (hy:aE σ y=some (.int j b)) (hw:j.wrap (a - b)=a - b) :
  aK P (.binOp .sub t x y u) σ g aa (.int j (a - b)) aa:=.mr hx hy fun w=>by simp [Go.binOp,Op.intArith,hw]
theorem aK.mul {t u:TypeId} {x y:Operand} {j:IntKind} {a b:Int} (hx:aE σ x=some (.int j a)) (hy:aE σ y=some (.int j b)) (hw:j.wrap (a*b)=a*b) :
  aK P (.binOp .mul t x y u) σ g aa (.int j (a*b)) aa:=.mr hx hy fun w=>by simp [Go.binOp,Op.intArith,hw]
theorem aK.pG {t u:TypeId} {x y:Operand} {j:IntKind} {a b:Int} (hx:aE σ x=some (.int j a)) (hy:aE σ y=some (.int j b)) :
  aK P (.binOp .add t x y u) σ g aa (.int j (j.wrap (a+b))) aa:=.mr hx hy fun w=>by simp [Go.binOp,Op.intArith]
theorem aK.acU {t u:TypeId} {x y:Operand} {j:IntKind} {a b:Int} (hx:aE σ x=some (.int j a)) (hy:aE σ y=some (.int j b)) :
  aK P (.binOp .sub t x y u) σ g aa (.int j (j.wrap (a - b))) aa:=.mr hx hy fun w=>by simp [Go.binOp,Op.intArith]
theorem aK.N_ {t u:TypeId} {x y:Operand} {j:IntKind} {a b:Int} (hx:aE σ x=some (.int j a)) (hy:aE σ y=some (.int j b)) :
  aK P (.binOp .mul t x y u) σ g aa (.int j (j.wrap (a*b))) aa:=.mr hx hy fun w=>by simp [Go.binOp,Op.intArith]
theorem aK.quo {t u:TypeId} {x y:Operand} {j:IntKind} {a b:Int} (hx:aE σ x=some (.int j a)) (hy:aE σ y=some (.int j b)) (h0:b≠0) :
  aK P (.binOp .quo t x y u) σ g aa (.int j (j.wrap (a.tdiv b))) aa:=.mr hx hy fun w=>by simp [Go.binOp,Op.intDiv,h0]
theorem aK.rem {t u:TypeId} {x y:Operand} {j:IntKind} {a b:Int} (hx:aE σ x=some (.int j a)) (hy:aE σ y=some (.int j b)) (h0:b≠0) :
  aK P (.binOp .rem t x y u) σ g aa (.int j (a.tmod b)) aa:=.mr hx hy fun w=>by simp [Go.binOp,Op.intDiv,h0]
theorem aK.lss {t u:TypeId} {x y:Operand} {j:IntKind} {a b:Int} (hx:aE σ x=some (.int j a)) (hy:aE σ y=some (.int j b)) :
  aK P (.binOp .lss t x y u) σ g aa (.bool (decide (a<b))) aa:=.mr hx hy fun w=>by simp [Go.binOp,Op.intCmp]
theorem aK.leq {t u:TypeId} {x y:Operand} {j:IntKind} {a b:Int} (hx:aE σ x=some (.int j a)) (hy:aE σ y=some (.int j b)) :
  aK P (.binOp .leq t x y u) σ g aa (.bool (decide (a≤b))) aa:=.mr hx hy fun w=>by simp [Go.binOp,Op.intCmp]
theorem aK.gtr {t u:TypeId} {x y:Operand} {j:IntKind} {a b:Int} (hx:aE σ x=some (.int j a)) (hy:aE σ y=some (.int j b)) :
  aK P (.binOp .gtr t x y u) σ g aa (.bool (decide (b<a))) aa:=.mr hx hy fun w=>by simp [Go.binOp,Op.intCmp]
theorem aK.geq {t u:TypeId} {x y:Operand} {j:IntKind} {a b:Int} (hx:aE σ x=some (.int j a)) (hy:aE σ y=some (.int j b)) :
  aK P (.binOp .geq t x y u) σ g aa (.bool (decide (b≤a))) aa:=.mr hx hy fun w=>by simp [Go.binOp,Op.intCmp]
theorem aK.eql {t u:TypeId} {x y:Operand} {j:IntKind} {a b:Int} (hx:aE σ x=some (.int j a)) (hy:aE σ y=some (.int j b)) :
  aK P (.binOp .eql t x y u) σ g aa (.bool (decide (a=b))) aa:=.mr hx hy fun w=>by simp [Go.binOp,Op.intCmp];rfl
theorem aK.neq {t u:TypeId} {x y:Operand} {j:IntKind} {a b:Int} (hx:aE σ x=some (.int j a)) (hy:aE σ y=some (.int j b)) :
  aK P (.binOp .neq t x y u) σ g aa (.bool (decide (a≠b))) aa:=.mr hx hy fun w=>by simp [Go.binOp,Op.intCmp];rfl
theorem aK.shl {t u:TypeId} {x y:Operand} {j i:IntKind} {a b:Int} (hx:aE σ x=some (.int j a)) (hy:aE σ y=some (.int i b)) (h0:0≤b) :
  aK P (.binOp .shl t x y u) σ g aa (.int j (j.wrap (a*2 ^ min b.toNat j.bits))) aa :=
 .run fun o ρ w ho hk=>by
  have:¬ b<0:=by omega
  simp [execOp,ho,hk x _ hx,hk y _ hy,eqGuard,Go.binOp,Op.shift,this]
theorem aK.shr {t u:TypeId} {x y:Operand} {j i:IntKind} {a b:Int} (hx:aE σ x=some (.int j a)) (hy:aE σ y=some (.int i b)) (h0:0≤b) :
  aK P (.binOp .shr t x y u) σ g aa (.int j (a.fdiv (2 ^ min b.toNat j.bits))) aa :=
 .run fun o ρ w ho hk=>by
  have:¬ b<0:=by omega
  simp [execOp,ho,hk x _ hx,hk y _ hy,eqGuard,Go.binOp,Op.shift,this]
def bitsOf (op:BinOp) (k:IntKind) (a b:Int):Int :=
 let x:=BitVec.ofInt k.bits a
 let y:=BitVec.ofInt k.bits b
 match op with
 |.and=>k.wrap (x &&& y).toNat
 | .or => k.wrap (x ||| y).toNat
 |.xor=>k.wrap (x ^^^ y).toNat
 | .andNot => k.wrap (x &&& ~~~y).toNat
 |_=>0
theorem aK.and {t u:TypeId} {x y:Operand} {j:IntKind} {a b:Int} (hx:aE σ x=some (.int j a)) (hy:aE σ y=some (.int j b)) :
  aK P (.binOp .and t x y u) σ g aa (.int j (bitsOf .and j a b)) aa:=.mr hx hy fun w=>by simp [Go.binOp,Op.intBits,bitsOf]
theorem aK.or {t u:TypeId} {x y:Operand} {j:IntKind} {a b:Int} (hx:aE σ x=some (.int j a)) (hy:aE σ y=some (.int j b)) :
  aK P (.binOp .or t x y u) σ g aa (.int j (bitsOf .or j a b)) aa:=.mr hx hy fun w=>by simp [Go.binOp,Op.intBits,bitsOf]
theorem aK.xor {t u:TypeId} {x y:Operand} {j:IntKind} {a b:Int} (hx:aE σ x=some (.int j a)) (hy:aE σ y=some (.int j b)) :
  aK P (.binOp .xor t x y u) σ g aa (.int j (bitsOf .xor j a b)) aa:=.mr hx hy fun w=>by simp [Go.binOp,Op.intBits,bitsOf]
theorem aK.not {t:TypeId} {x:Operand} {b:Bool} (hx:aE σ x=some (.bool b)):aK P (.unOp .not t x) σ g aa (.bool (!b)) aa :=
 .run fun o ρ w ho hk=>by simp [execOp,ho,hk x _ hx,Op.unary]
theorem aK.pY {t:TypeId} {x:Operand} {p:Prop} [Decidable p] (hx:aE σ x=some (.bool (decide p))):aK P (.unOp .not t x) σ g aa (.bool (decide (¬ p))) aa:=by
 rw [decide_not];exact .not hx
theorem aK.neg {t:TypeId} {x:Operand} {j:IntKind} {a:Int} (hx:aE σ x=some (.int j a)):aK P (.unOp .neg t x) σ g aa (.int j (j.wrap (0 - a))) aa :=
 .run fun o ρ w ho hk=>by simp [execOp,ho,hk x _ hx,Op.unary,Op.intArith]
theorem aK.RP {t:TypeId} {x:Operand} {j:IntKind} {a:Int} (hx:aE σ x=some (.int j a)):aK P (.unOp .xor t x) σ g aa (.int j (bitsOf .xor j (if j.signed then -1 else j.max) a)) aa :=
 .run fun o ρ w ho hk=>by simp [execOp,ho,hk x _ hx,Op.unary,Op.intBits,bitsOf]
theorem aK.iY {s t:TypeId} {x:Operand} {j k:IntKind} {a:Int} {d:TypeDesc} (hs:P.underlying s=some d) (ht:P.underlying t=some (.int k)) (hx:aE σ x=some (.int j a)) :
  aK P (.convert s t x) σ g aa (.int k (k.wrap a)) aa :=
 .run fun o ρ w ho hk=>by simp [execOp,ho,hk x _ hx,convert,run_underlying hs,run_underlying ht,Conv.intToInt]
theorem run_equal_bool {t:TypeId} (ht:P.underlying t=some .bool) (a b:Bool) (w:World):(Op.equal t (.bool a) (.bool b)).run P w=.ok (a ==b) w:=by
 show (Op.equalIn (9999+1) t (.bool a) (.bool b)).run P w=_
 rw [Op.equalIn]
 simp [run_underlying ht]
theorem aK.LF {t u:TypeId} {x y:Operand} {a b:Bool} (ht:P.underlying t=some .bool) (hx:aE σ x=some (.bool a)) (hy:aE σ y=some (.bool b)) :
  aK P (.binOp .eql t x y u) σ g aa (.bool (decide (a=b))) aa :=
 .run fun o ρ w ho hk=>by simp [execOp,ho,hk x _ hx,hk y _ hy,eqGuard,Go.binOp,run_equal_bool ht];rfl
theorem aK.e4 {t u:TypeId} {x y:Operand} {a b:ByteArray} (hx:aE σ x=some (.string a)) (hy:aE σ y=some (.string b)) :
  aK P (.binOp .eql t x y u) σ g aa (.bool (decide (a.toList=b.toList))) aa :=
 .run fun o ρ w ho hk=>by
  have:(a.toList ==b.toList)=decide (a.toList=b.toList):=by rw [Bool.eq_iff_iff];simp
  simp [execOp,ho,hk x _ hx,hk y _ hy,eqGuard,Go.binOp,Op.stringOp,this]
theorem aK.AQ {t u:TypeId} {x y:Operand} {a b:ByteArray} (hx:aE σ x=some (.string a)) (hy:aE σ y=some (.string b)) :
  aK P (.binOp .neq t x y u) σ g aa (.bool (decide (a.toList≠b.toList))) aa :=
 .run fun o ρ w ho hk=>by
  have:(a.toList ==b.toList)=decide (a.toList=b.toList):=by rw [Bool.eq_iff_iff];simp
  simp [execOp,ho,hk x _ hx,hk y _ hy,eqGuard,Go.binOp,Op.stringOp,this]
theorem aK.len {t:TypeId} {x:Operand} {e:TypeId} {a:Option Addr} {m c:Nat} {ts:Array TypeId} (hts:ts[0]?=some t) (ht:P.underlying t=some (.slice e)) (hx:aE σ x=some (.slice a m c)) :
  aK P (.call ⟨.builtin .len,#[x],ts⟩) σ g aa (.int .i64 (m:Int)) aa :=
 .run fun o ρ w ho hk=>by simp [execOp,ho,resolve,invoke,builtin,hk x _ hx,Builtin.len_,hts,run_underlying ht,goInt]
theorem aK.cap {t:TypeId} {x:Operand} {e:TypeId} {a:Option Addr} {m c:Nat} {ts:Array TypeId} (hts:ts[0]?=some t) (ht:P.underlying t=some (.slice e)) (hx:aE σ x=some (.slice a m c)) :
  aK P (.call ⟨.builtin .cap,#[x],ts⟩) σ g aa (.int .i64 (c:Int)) aa :=
 .run fun o ρ w ho hk=>by simp [execOp,ho,resolve,invoke,builtin,hk x _ hx,Builtin.cap_,hts,run_underlying ht,goInt]
theorem aK.Yq {t:TypeId} {x:Operand} {s:ByteArray} {ts:Array TypeId} (hts:ts[0]?=some t) (ht:P.underlying t=some .string) (hx:aE σ x=some (.string s)) :
  aK P (.call ⟨.builtin .len,#[x],ts⟩) σ g aa (.int .i64 (s.size:Int)) aa :=
 .run fun o ρ w ho hk=>by simp [execOp,ho,resolve,invoke,builtin,hk x _ hx,Builtin.len_,hts,run_underlying ht,goInt]
theorem aK.extract {x:Operand} {vs:Array Value} {j:Nat} {v:Value} (hx:aE σ x=some (.tuple vs)) (hj:vs[j]?=some v):aK P (.extract x j) σ g aa v aa :=
 .run fun o ρ w ho hk=>by simp [execOp,ho,hk x _ hx,Instr.extract,hj]
theorem aK.N5 {fn:Go.Fn} {first cap:Array Operand} {vs us:List Value} (h1:e8 σ first.toList=some vs) (h2:e8 σ cap.toList=some us) :
  aK P (.makeFunc fn first cap) σ g aa (.func fn vs.toArray us.toArray) aa :=
 .run fun o ρ w ho hk=>by
  have e1:first.map ρ=vs.toArray:=by rw [← uJ hk h1,← Array.toList_map]
  have e2:cap.map ρ=us.toArray:=by rw [← uJ hk h2,← Array.toList_map]
  simp [execOp,ho,Instr.makeFunc,e1,e2]
theorem aK.nilCheck {x:Operand} {a:Addr} (hx:aE σ x=some (.pointer (some a))):aK P (.nilCheck x) σ g aa (.pointer (some a)) aa :=
 .run fun o ρ w ho hk=>by simp [execOp,ho,hk x _ hx]
end
end Go.Sp
end
section
/- Texts of this proof. -/
namespace Go.Sp
def gd (P:Program) (t:TypeId):Bool:=flat P t && ((P.info? t).map (·.size) ==some 1)
theorem uK {P:Program} {t:TypeId} (h:gd P t=true):flat P t=true:=by unfold gd at h;simp at h;exact h.1
theorem run_sizeOf {P:Program} {t:TypeId} {m:Nat} (h:(P.info? t).map (·.size)=some m) (w:World):(sizeOf t).run P w=.ok m w:=by
 cases hi:P.info? t with
 |none=>rw [hi] at h;cases h
 |some i=>rw [hi] at h;simp at h;simp [sizeOf,typeInfo,hi,h]
def cg (h:Fr) (p:Addr) (cs:List Value):Prop:=∀ j (hj:j<cs.length),h.cell (p.add j)=some cs[j]
theorem cg.mono {h k:Fr} {p:Addr} {cs:List Value} (s:h.sub k) (x:cg h p cs):cg k p cs:=fun j hj=>Fr.uC s (x j hj)
theorem Addr.add_add (a:Addr) (i j:Nat):(a.add i).add j=a.add (i+j):=by
 unfold Addr.add
 by_cases hi:i=0
 ·subst hi;simp
 ·by_cases hj:j=0
  ·subst hj;simp
  ·have:i+j≠0:=by omega
   simp [hi,hj,Nat.add_assoc]
theorem Addr.add_zero (a:Addr):a.add 0=a:=by simp [Addr.add]
theorem cg.drop {h:Fr} {p:Addr} {cs:List Value} (x:cg h p cs) (i:Nat):cg h (p.add i) (cs.drop i):=fun j hj=>by
 rw [Addr.add_add,x (i+j) (by simp at hj;omega)];simp
theorem cg.take {h:Fr} {p:Addr} {cs:List Value} (x:cg h p cs) (i:Nat):cg h p (cs.take i):=fun j hj=>by
 rw [x j (by simp at hj;omega)];simp
theorem cg.at {h:Fr} {p:Addr} {cs:List Value} (x:cg h p cs) {j:Nat} {v:Value} (hv:cs[j]?=some v):h.cell (p.add j)=some v:=by
 obtain ⟨hj,rfl⟩:=List.getElem?_eq_some_iff.1 hv;exact x j hj
def qm (h:Fr) (v:Value) (k m:Nat) (cs:List Value):Prop :=
 ∃ a cap,v=.slice a m cap∧m≤cap∧(cap≤9223372036854775807∧(a=none→cap=0))∧cs.length=m*k∧∀ j (hj:j<cs.length),∃ p,a=some p∧h.cell (p.add j)=some cs[j]
theorem qm.mono {h h' :Fr} {v:Value} {k m:Nat} {cs:List Value} (s:h.sub h'):qm h v k m cs→qm h' v k m cs
 |⟨a,cap,h1,h2,h3,h4,h5⟩=>⟨a,cap,h1,h2,h3,h4,fun j hj=>let ⟨p,x,y⟩:=h5 j hj;⟨p,x,Fr.uC s y⟩⟩
theorem qm.bound {h:Fr} {v:Value} {k m:Nat} {cs:List Value}:qm h v k m cs→m≤9223372036854775807
 |⟨_,_,_,h1,h2,_,_⟩=>Nat.le_trans h1 h2.1
def obj (b:Nat) (T:TypeId) (cs:List Value):az:=kg b (.cells cs.toArray T (0,0))
def ur (fz:Nat × Nat) (n:Nat):Prop:=∀ j,j<n→¬(fz.1≤j∧j<fz.2)
theorem ac8 (n:Nat):ur (0,0) n:=fun j _ h=>Nat.not_lt_zero j h.2
def Own (v:Value) (k:Nat) (T:TypeId) (m:Nat) (cs:List Value):az:=fun h =>
 cs.length=m*k∧((v=.slice none 0 0∧m=0) ∨
  ∃ b cap cur,v=.slice (some ⟨b,0,none⟩) m cap∧(∃ fz,h b=some (.cells cur T fz)∧ur fz (cap*k))∧m≤cap∧cap≤9223372036854775807∧cur.size=cap*k∧cur.toList.take (m*k)=cs)
theorem Own.sl {h:Fr} {v:Value} {k m:Nat} {T:TypeId} {cs:List Value}:Own v k T m cs h→qm h v k m cs
 |⟨hl,.inl ⟨hv,hm⟩⟩=>by subst hv hm;exact ⟨none,0,rfl,Nat.le_refl _,⟨by omega,fun _=>rfl⟩,hl,fun j hj=>by omega⟩
 |⟨hl,.inr ⟨b,cap,cur,hv,⟨fz,hb,_⟩,h1,h2,h3,h4⟩⟩=>by
  subst hv;refine ⟨_,cap,rfl,h1,⟨h2,fun h=>by cases h⟩,hl,fun j hj=>⟨_,rfl,?_⟩⟩;have hj' :j<m*k:=by omega
  have:(⟨b,0,none⟩:Addr).add j=⟨b,j,none⟩:=by
   unfold Addr.add;split
   ·rename_i hz;subst hz;rfl
   ·simp
  rw [this];simp only [Fr.cell,hb];subst h4;simp only [Option.isSome_none,Bool.false_eq_true,if_false,List.getElem_take];have:j<cur.size:=by
   have:=List.length_take_le (m*k) cur.toList
   simp at hj;omega
  simp [this]
section
variable {ro:Option Nat} {P:Program} {σ:List (Nat × Value)} {g:bp} {aa ζ:List az}
theorem aK.load {t:TypeId} {x:Operand} {p:Addr} {v:Value} (ht:gd P t=true) (hx:aE σ x=some (.pointer (some p))) (hp:g.h.cell p=some v):aK P (.load t x) σ g aa v aa :=
 fun o ρ w ho hk hw=>⟨w,by
  have hc:w.cell? p=some v:=Fr.uC hw.ground hp
  simp [execOp,ho,hk x _ hx,Instr.loadAt,Instr.sureAddr,loadVar,ve (uK ht),hc],hw⟩
theorem aK.aJ {t:TypeId} {x:Operand} {p:Addr} {cs:List Value} (ht:∀ w,(isAgg t).run P w=.ok true w) (hs:(P.info? t).map (·.size)=some cs.length)
  (hx:aE σ x=some (.pointer (some p))) (hp:cg g.h p cs):aK P (.load t x) σ g aa (.agg cs.toArray) aa :=
 fun o ρ w ho hk hw=>⟨w,by
  have hr:=run_loadCells_list (P:=P) w p cs fun j v hj=>Fr.uC hw.ground (hp.at hj)
  simp [execOp,ho,hk x _ hx,Instr.loadAt,Instr.sureAddr,loadVar,ht,run_sizeOf hs,hr],hw⟩
theorem ax.wL {w:World} {b:Nat} {T:TypeId} {cs:List Value} (h:ax w g (obj b T cs::aa)) {j:Nat} {v:Value} (hj:cs[j]?=some v):w.cell? ⟨b,j,none⟩=some v:=by
 have:=h.block
 simp [World.cell?,this,hj]
theorem aK.yt {t T:TypeId} {x:Operand} {b j:Nat} {cs:List Value} {v:Value} (ht:gd P t=true) (hx:aE σ x=some (.pointer (some ⟨b,j,none⟩))) (hs:bA aa (obj b T cs) ζ) (hj:cs[j]?=some v) :
  aK P (.load t x) σ g aa v aa :=
 fun o ρ w ho hk hw=>⟨w,by
  have hc:w.cell? ⟨b,j,none⟩=some v:=(hw.eJ hs).wL hj
  simp [execOp,ho,hk x _ hx,Instr.loadAt,Instr.sureAddr,loadVar,ve (uK ht),hc],hw⟩
theorem add_lit (b i j:Nat):(⟨b,i,none⟩:Addr).add j=⟨b,i+j,none⟩:=by
 unfold Addr.add;split
 ·rename_i hz;subst hz;rfl
 ·rfl
theorem aK.AL {t T:TypeId} {x:Operand} {b i:Nat} {cs news:List Value} (ht:∀ w,(isAgg t).run P w=.ok true w) (hsz:(P.info? t).map (·.size)=some news.length)
  (hx:aE σ x=some (.pointer (some ⟨b,i,none⟩))) (hs:bA aa (obj b T cs) ζ) (hn:(cs.drop i).take news.length=news):aK P (.load t x) σ g aa (.agg news.toArray) aa :=
 fun o ρ w ho hk hw=>⟨w,by
  have hr:=run_loadCells_list (P:=P) w ⟨b,i,none⟩ news fun j v hj=>by
   rw [add_lit];refine (hw.eJ hs).wL ?_;have hjl:j<news.length:=(List.getElem?_eq_some_iff.1 hj).1;rw [← hn,List.getElem?_take_of_lt hjl,List.getElem?_drop] at hj;exact hj
  simp [execOp,ho,hk x _ hx,Instr.loadAt,Instr.sureAddr,loadVar,ht,run_sizeOf hsz,hr],hw⟩
def mK (P:Program) (s f:Nat):Option Nat :=
 match P.underlying s with
 |some (.struct fs) =>
  match fs[f]? with
  |some fd=>match (P.info? fd.type).map (·.size) with|some (_+1)=>some fd.offset|_=>none
  |none=>none
 |_=>none
theorem abQ {s f off:Nat} (h:mK P s f=some off) (a:Addr) (w:World):(Instr.fieldAt s (.pointer (some a)) f).run P w=.ok (.pointer (some (a.add off))) w:=by
 unfold mK at h
 split at h
 ·rename_i fs hu
  split at h
  ·rename_i fd hf
   split at h
   ·rename_i m hm
    cases h
    simp [Instr.fieldAt,run_underlying hu,hf,Instr.sureAddr,fieldPlace,run_sizeOf hm]
   ·cases h
  ·cases h
 ·cases h
theorem aK.fieldAddr {s f off:Nat} {x:Operand} {a:Addr} (h:mK P s f=some off) (hx:aE σ x=some (.pointer (some a))):aK P (.fieldAddr s x f) σ g aa (.pointer (some (a.add off))) aa :=
 .run fun o ρ w ho hk=>by simp [execOp,ho,hk x _ hx,abQ h]
theorem aK.s7 {s f off b i:Nat} {x:Operand} (h:mK P s f=some off) (hx:aE σ x=some (.pointer (some ⟨b,i,none⟩))):aK P (.fieldAddr s x f) σ g aa (.pointer (some ⟨b,i+off,none⟩)) aa:=by
 have:=aK.fieldAddr (g:=g) (aa:=aa) h hx;rwa [add_lit] at this
def dj (P:Program) (op:Op) (σ:List (Nat × Value)) (g:bp) (aa:List az) (K:Value→List az→Prop):Prop :=
 ∀ (o:Oper) (ρ:Operand→Value) (w:World),o.op=op→oN σ ρ→ax w g aa→∃ v w' au,K v au ∧(execOp ρ o).run P w=.ok (.value v) w' ∧ax w' g au
theorem O.aD {ro:Option Nat} {fn:Func} {n:Nat} {R:Ending→World→Prop} {k:List Item} {D:List Deferred} {ops:Array Oper} {i d:Nat} {l:List Nat} {op:Op} {K:Value→List az→Prop}
  (ho:cA ops i n σ d op) (eb:dj P op σ g aa K) (h:∀ v au,K v au →O ro P fn n R ops l k ((d,v)::σ) D g au):O ro P fn n R ops (i::l) k σ D g aa:=by
 intro a w hf hd hw
 obtain ⟨o,hi,iO,hop,hg,hb⟩:=ho.spec;obtain ⟨v,w',au,hk,hrun,hw'⟩:=eb o a.eval w hop hf.rX hw;refine O.vL hi (hg a hf) (Oi hrun) hrun ?_;rw [Oper.uponIn_value,iO];exact h v au hk _ _ (hf.put hb) hd hw'
theorem ax.EY {w:World} (h:ax w g aa) (T:TypeId) (cs:Array Value):ax (w.alloc (.cells cs T)) g (obj w.heap.size T cs.toList::aa):=by
 have:=h.alloc (.cells cs T)
 simpa [obj] using this
theorem dj.alloc {T:TypeId} {z:Value} {cs:List Value} (hz:∀ w,(zeroValue T).run P w=.ok z w) (hc:z.cells.toList=cs):dj P (.alloc T) σ g aa fun v au =>∃ b,v=.pointer (some ⟨b,0,none⟩)∧au =obj b T cs::aa :=
 fun o ρ w ho _ hw=>by subst hc;exact ⟨_,_,_,⟨w.heap.size,rfl,rfl⟩,by simp [execOp,ho,Instr.alloc,hz,newVar,newRow],hw.EY T z.cells⟩
theorem dj.box {T:TypeId} {x:Operand} {v:Value} {cs:List Value} (hx:aE σ x=some v) (hc:v.cells.toList=cs):dj P (.box T x) σ g aa fun p au =>∃ b,p=.pointer (some ⟨b,0,none⟩)∧au =obj b T cs::aa :=
 fun o ρ w ho hk hw=>by subst hc;exact ⟨_,_,_,⟨w.heap.size,rfl,rfl⟩,by simp [execOp,ho,Instr.box,hk x _ hx,newVar,newRow],hw.EY T v.cells⟩
theorem ax.setRow {w:World} {b:Nat} {T:TypeId} {cur cs:Array Value} {fz:Nat × Nat} (h:ax w g (kg b (.cells cur T fz)::aa)):ax (w.setRow b cs) g (kg b (.cells cs T fz)::aa) :=
 h.setBlock (setRow_heap w b _ cs T fz h.block) (fun i hi=>setRow_other w b i cs hi) rfl rfl rfl
theorem DQ (P:Program) (g o:Nat) (t:TypeId) {fz:Nat × Nat} {n:Nat} (hz:ur fz n):∀ (vs:List Value) (i:Nat) (cur:Array Value) (w:World),w.heap[g]?=some (.cells cur t fz)→cur.size≤n→o+i+vs.length≤cur.size→(∀ v∈vs,v.oneCell' =true) →
  (storeCells ⟨g,o,none⟩ vs i).run P w=.ok () (w.setRow g (cur.toList.take (o+i)++vs++cur.toList.drop (o+i+vs.length)).toArray)
 |[],i,cur,w,hg,_,_,_=>by
  simp only [storeCells,List.append_nil,List.length_nil,Nat.add_zero,List.take_append_drop,Array.toArray_toList];rw [setRow_self w g cur t fz hg]
  rfl
 |v::rest,i,cur,w,hg,hn,hl,h1=>by
  have hi:o+i<cur.size:=by simp at hl;omega
  have UQ:(⟨g,o,none⟩:Addr).add i=⟨g,o+i,none⟩:=by unfold Addr.add;split<;>simp_all
  have hcell:w.cell? ⟨g,o+i,none⟩=some cur[o+i]:=by simp [World.cell?,hg,hi]
  have Vc:w.frozen? ⟨g,o+i,none⟩=false:=by
   have:=hz (o+i) (by omega);simp only [World.frozen?,hg]
   simpa using this
  have hst:(store ((⟨g,o,none⟩:Addr).add i) v).run P w=.ok () (w.setRow g (cur.setIfInBounds (o+i) v)):=by
   rw [UQ,run_store P w _ v _ (h1 v (by simp)),hcell]
   simp [Vc,setCell_eq_setRow w g (o+i) cur t fz v hg]
  have ih:=DQ P g o t hz rest (i+1) (cur.setIfInBounds (o+i) v) (w.setRow g (cur.setIfInBounds (o+i) v)) (setRow_heap w g cur _ t _ hg) (by simpa using hn) (by simp at hl ⊢;omega) (fun x hx=>h1 x (by simp [hx]));simp only [storeCells,Sem.run_bind,hst,Result.andThen_ok,ih,setRow_setRow]
  congr 3
  have e:=list_seg_step cur.toList (o+i) v rest (by simp at hl ⊢;omega)
  simpa [Array.toList_setIfInBounds,Nat.add_assoc] using e
theorem mB.jM {t T:TypeId} {x y:Operand} {b i:Nat} {cs news:List Value} {v:Value} (hsz:(P.info? t).map (·.size)=some news.length) (hx:aE σ x=some (.pointer (some ⟨b,i,none⟩))) (hy:aE σ y=some v)
  (hv:v.cells.toList=news) (h1:news.all (·.oneCell')=true) (hs:bA aa (obj b T cs) ζ) (hl:i+news.length≤cs.length) :
  mB P (.store t x y) σ g aa (obj b T (cs.take i++news++cs.drop (i+news.length))::ζ) :=
 fun o ρ w ho hk hw=>by
  have hw1:=hw.eJ hs;have hst:=run_storeCells_at P b i T news 0 cs.toArray w hw1.block (by simpa using hl) (by simpa using h1);refine ⟨w.setRow b (cs.take i++news++cs.drop (i+news.length)).toArray,?_,hw1.setRow⟩;have hc:v.cells.size=news.length:=by rw [← hv];simp
  simp only [Nat.add_zero] at hst
  simp [execOp,ho,hk x _ hx,hk y _ hy,Instr.storeAt,Instr.sureAddr,storeVar,run_sizeOf hsz,hc,hv,hst]
theorem mB.rf {t T:TypeId} {x y:Operand} {b i:Nat} {cs:List Value} {v:Value} (ht:gd P t=true) (hx:aE σ x=some (.pointer (some ⟨b,i,none⟩))) (hy:aE σ y=some v)
  (h1:v.oneCell' =true) (hs:bA aa (obj b T cs) ζ) (hl:i<cs.length):mB P (.store t x y) σ g aa (obj b T (cs.set i v)::ζ):=by
 have hc:v.cells=#[v]:=by cases v<;>first|rfl|cases h1
 have hsz:(P.info? t).map (·.size)=some 1:=by unfold gd at ht;simp at ht;simpa using ht.2
 have:=mB.jM (P:=P) (g:=g) (news:=[v]) hsz hx hy (by rw [hc]) (by simp [h1]) hs (by simp;omega);rw [List.set_eq_take_append_cons_drop,if_pos hl]
 simpa using this
end
end Go.Sp
end
end
section
/- Texts of this proof. -/
namespace Go.Sp
section
variable {P:Program} {σ:List (Nat × Value)} {g:bp} {aa ζ:List az}
def cu (P:Program) (e k dx:Nat) (z:List Value):Prop:=∃ i ej,P.info? e=some i∧i.zero=some ej∧i.size=k∧i.bytes=dx∧ej.cells.toList=z∧z.length=k
theorem cu.mk {e k dx:Nat} {z:List Value} (h:(P.info? e).map (fun i=>(i.zero.map (·.cells.toList),i.size,i.bytes))=some (some z,k,dx)) (hz:z.length=k):cu P e k dx z:=by
 unfold cu
 cases hi:P.info? e with
 |none=>rw [hi] at h;cases h
 |some i =>
  rw [hi] at h;simp only [Option.map_some,Option.some.injEq,Prod.mk.injEq,Option.map_eq_some_iff] at h;obtain ⟨⟨ej,h1,h2⟩,h3,h4⟩:=h;exact ⟨i,ej,rfl,h1,h3,h4,h2,hz⟩
def lY (z:List Value):Nat→List Value
 |0=>[]
 |m+1=>z++lY z m
theorem yp (z:List Value) (m:Nat):(lY z m).length=m*z.length:=by
 induction m with
 |zero=>simp [lY]
 |succ m ih=>simp [lY,ih,Nat.succ_mul,Nat.add_comm]
theorem aby (z:List Value) (m j:Nat) (h:j<m*z.length):(lY z m)[j]?=z[j % z.length]?:=by
 induction m generalizing j with
 |zero=>simp at h
 |succ m ih =>
  simp only [lY]
  rcases Nat.lt_or_ge j z.length with hj|hj
  ·rw [List.getElem?_append_left hj,Nat.mod_eq_of_lt hj]
  ·rw [List.getElem?_append_right hj,ih (j - z.length) (by rw [Nat.succ_mul] at h;omega),Nat.mod_eq_sub_mod hj]
theorem IJ (z:Array Value) (m:Nat) (hz:0<z.size):(madeCells z (m*z.size)).toList=lY z.toList m:=by
 apply List.ext_getElem?
 intro j
 rcases Nat.lt_or_ge j (m*z.size) with h|h
 ·rw [aby _ _ _ (by simpa using h)]
  have hm:=Nat.mod_lt j hz
  simp [madeCells,h,hm]
 ·rw [List.getElem?_eq_none (by simp [madeCells];exact h),List.getElem?_eq_none (by rw [yp];simpa using h)]
theorem ax.wO {w:World} {b:Nat} {T k m cap:Nat} {cur:Array Value} {cs:List Value} {fz:Nat × Nat} (h:ax w g (kg b (.cells cur T fz)::aa)) (hz:ur fz (cap*k)) (h1:m≤cap) (h2:cap≤9223372036854775807)
  (h3:cur.size=cap*k) (h4:cur.toList.take (m*k)=cs):ax w g (Own (.slice (some ⟨b,0,none⟩) m cap) k T m cs::aa) :=
 h.imp fun _=>Sat.g9 (fun f hf=>⟨by rw [← h4,List.length_take,Array.length_toList,h3];exact Nat.min_eq_left (Nat.mul_le_mul_right _ h1),.inr ⟨b,cap,cur,rfl,⟨fz,hf,hz⟩,h1,h2,h3,h4⟩⟩) fun _ x=>x
theorem ax.own {w:World} {b:Nat} {T k m cap:Nat} {cur:Array Value} {cs:List Value} (h:ax w g (kg b (.cells cur T (0,0))::aa)) (h1:m≤cap) (h2:cap≤9223372036854775807)
  (h3:cur.size=cap*k) (h4:cur.toList.take (m*k)=cs):ax w g (Own (.slice (some ⟨b,0,none⟩) m cap) k T m cs::aa) :=
 h.wO (ac8 _) h1 h2 h3 h4
theorem Pa {P:Program} (w:World) (t ty e:TypeId) (i:TypeInfo) (ht:P.underlying t=some (.slice e)) (hi:P.info? e=some i)
  (g sLen sCap:Nat) (cur:Array Value) {fz:Nat × Nat} (hg:w.heap[g]?=some (.cells cur e fz)) (hz:ur fz cur.size)
  (a:Addr) (m c:Nat) (news:List Value) (hl:news.length=m*i.size) (hnews:∀ j u,news[j]?=some u→w.cell? (a.add j)=some u) (h1:∀ u∈news,u.oneCell' =true)
  (hroom:sLen+m≤sCap) (hfit:sLen*i.size+news.length≤cur.size) :
  (Builtin.append_ #[t,t] ty #[.slice (some ⟨g,0,none⟩) sLen sCap,.slice (some a) m c]).run P w =
   .ok (.slice (some ⟨g,0,none⟩) (sLen+m) sCap) (w.setRow g (cur.toList.take (sLen*i.size)++news++cur.toList.drop (sLen*i.size+news.length)).toArray):=by
 have hf:=run_firstCells_some (P:=P) w i.size m a m c news hl hnews;have hst:=DQ P g (sLen*i.size) e hz news 0 cur w hg (Nat.le_refl _) (by simpa using hfit) h1;simp only [Nat.add_zero] at hst
 simp [Builtin.append_,run_underlying ht,sizeOf,typeInfo,hi,Builtin.lenOf,hroom,hf,Addr.add_lit,hst]
theorem dj.make {t e k dx:Nat} {z:List Value} {x y:Operand} {m:Nat} {rY ky:IntKind} (ht:P.underlying t=some (.slice e)) (he:cu P e k dx z) (hk:0<k)
  (hx:aE σ x=some (.int rY m)) (hy:aE σ y=some (.int ky m)) (hb:dx*m≤281474976710656) (h63:m≤9223372036854775807) :
  dj P (.makeSlice t x y) σ g aa fun v au =>au =Own v k e m (lY z m)::aa :=
 fun o ρ w ho hkn hw=>by
  obtain ⟨i,ej,hi,hz,hs,hby,mS,hzl⟩:=he;subst hs hby mS;have hb' :(i.bytes:Int)*(m:Int)≤281474976710656:=by rw [← Int.natCast_mul];omega
  have hr:=run_make (P:=P) w t e i ej ht hi hz rY ky m m (by omega) (Int.le_refl _) hb' (by omega);simp only [Int.toNat_natCast] at hr;have hzs:ej.cells.size=i.size:=by simpa using hzl
  refine ⟨.slice (some ⟨w.heap.size,0,none⟩) m m,w.alloc (.cells (madeCells ej.cells (m*i.size)) e),_,rfl,by simp [execOp,ho,hkn x _ hx,hkn y _ hy,hr],(hw.alloc _).own (Nat.le_refl _) (by omega) ?_ ?_⟩
  ·simp [madeCells]
  ·rw [← hzs,IJ _ _ (by omega),List.take_of_length_le (by rw [yp];simp)]
theorem dj.YV {t e k dx:Nat} {z:List Value} {x y:Operand} {c:Nat} {rY ky:IntKind} (ht:P.underlying t=some (.slice e)) (he:cu P e k dx z)
  (hx:aE σ x=some (.int rY 0)) (hy:aE σ y=some (.int ky c)) (hb:dx*c≤281474976710656) (h63:c≤9223372036854775807) :
  dj P (.makeSlice t x y) σ g aa fun v au =>au =Own v k e 0 []::aa :=
 fun o ρ w ho hkn hw=>by
  obtain ⟨i,ej,hi,hz,hs,hby,mS,hzl⟩:=he;subst hs hby mS;have hb' :(i.bytes:Int)*(c:Int)≤281474976710656:=by rw [← Int.natCast_mul];omega
  have hr:=run_make (P:=P) w t e i ej ht hi hz rY ky 0 c (by omega) (by omega) hb' (by omega);simp only [Int.toNat_natCast,Int.toNat_zero] at hr;refine ⟨.slice (some ⟨w.heap.size,0,none⟩) 0 c,w.alloc (.cells (madeCells ej.cells (c*i.size)) e),_,rfl,by simp [execOp,ho,hkn x _ hx,hkn y _ hy,hr],(hw.alloc _).own (Nat.zero_le _) (by omega) ?_ ?_⟩
  ·simp [madeCells]
  ·simp
def partsOf (σ:List (Nat × Value)):List (Nat × Operand)→Nat→Option (List Value)
 |[],_=>some []
 |(i,x)::r,j=>match Nat.beq i j,aE σ x,partsOf σ r (j+1) with|true,some v,some vs=>some (v::vs)|_,_,_=>none
theorem FV:∀ (us pre mid post:List Value) (o:Nat) (q:Nat) (cells:Array Value),cells.toList=pre++mid++post→mid.length=us.length→pre.length=q+o →
  (us.zipIdx o).foldl (fun cs (x:Value × Nat)=>cs.setIfInBounds (q+x.2) x.1) cells=(pre++us++post).toArray
 |[],pre,mid,post,o,q,cells,hc,hm,_=>by
  have:mid=[]:=List.eq_nil_of_length_eq_zero (by simpa using hm);subst this
  apply Array.ext';simpa using hc
 |u::us,pre,mid,post,o,q,cells,hc,hm,hp=>by
  match mid,hm with
  |m::mid,hm =>
   simp only [List.zipIdx_cons,List.foldl_cons];rw [FV us (pre++[u]) mid post (o+1) q _ ?_ (by simpa using hm) (by simp;omega)]
   ·simp
   ·rw [Array.toList_setIfInBounds,hc,← hp]
    simp
theorem LP {σ:List (Nat × Value)} {ρ:Operand→Value} (hk:oN σ ρ) (k:Nat):∀ (l:List (Nat × Operand)) (j:Nat) (vs:List Value) (pre rest:List Value) (cells:Array Value),
  partsOf σ l j=some vs→(∀ v∈vs,v.cells.size=k)→cells.toList=pre++rest→pre.length=j*k→rest.length=l.length*k →
  Instr.fill (fun i=>some (i*k,k)) cells (l.map fun p=>(p.1,ρ p.2))=some (pre++(vs.map (·.cells.toList)).flatten).toArray
 |[],j,vs,pre,rest,cells,h,_,hc,_,hr=>by
  cases h
  have:rest=[]:=List.eq_nil_of_length_eq_zero (by simpa using hr);subst this;simp only [List.map_nil,Instr.fill,List.flatten_nil,List.append_nil] at hc ⊢;rw [← hc]
 |(i,x)::l,j,vs,pre,rest,cells,h,hs,hc,hp,hr=>by
  simp only [partsOf] at h
  split at h
  ·rename_i v us hb hv gP
   cases h
   have:=Nat.eq_of_beq_eq_true hb;subst this;have gQ:v.cells.size=k:=hs v (by simp);have e2:(l.length+1)*k=l.length*k+k:=Nat.succ_mul _ _;simp only [List.length_cons] at hr;have hsz:cells.size=i*k+((l.length+1)*k):=by rw [← Array.length_toList,hc,List.length_append,hp,hr]
   have hf:(v.cells.zipIdx.foldl (fun cs (x:Value × Nat)=>cs.setIfInBounds (i*k+x.2) x.1) cells)=(pre++v.cells.toList++rest.drop k).toArray:=by
    rw [← Array.foldl_toList,Array.toList_zipIdx];refine FV v.cells.toList pre (rest.take k) (rest.drop k) 0 (i*k) cells ?_ ?_ (by simpa using hp)
    ·rw [List.append_assoc,List.take_append_drop];exact hc
    ·simp [gQ];omega
   have h2:¬ (i*k+v.cells.size>cells.size):=by omega
   simp only [List.map_cons,Instr.fill,hk x v hv];rw [if_neg (by simp [gQ];omega)];refine (congrArg (fun c=>Instr.fill _ c _) hf).trans ?_;rw [LP hk k l (i+1) us (pre++v.cells.toList) (rest.drop k) _ gP (fun u hu=>hs u (by simp [hu])) (by simp) (by simp [hp,gQ,Nat.succ_mul]) (by simp;omega)]
   simp
  ·cases h
theorem Jc {σ:List (Nat × Value)}:∀ (l:List (Nat × Operand)) (j:Nat) (vs:List Value),partsOf σ l j=some vs→vs.length=l.length
 |[],_,_,h=>by cases h;rfl
 |(q,x)::l,j,vs,h=>by
  simp only [partsOf] at h
  split at h
  ·rename_i v us _ _ gP;cases h;simp [Jc l _ _ gP]
  ·cases h
theorem NI {k:Nat}:∀ vs:List Value,(∀ v∈vs,v.cells.size=k)→((vs.map (·.cells.toList)).flatten).length=vs.length*k
 |[],_=>by simp
 |v::vs,h=>by
  have:=NI vs (fun u hu=>h u (by simp [hu]))
  simp [this,h v (by simp),Nat.succ_mul,Nat.add_comm]
theorem dj.lit {t e k dx:Nat} {z:List Value} {parts:Array (Nat × Operand)} {vs:List Value} {len:Nat} (ht:P.underlying t=some (.slice e)) (he:cu P e k dx z) (hk:0<k)
  (hp:partsOf σ parts.toList 0=some vs) (hlen:parts.toList.length=len) (hvs:vs.all (fun v=>Nat.beq v.cells.size k)=true) (gJ:len*k≤16777216) :
  dj P (.buildSlice t len parts) σ g aa fun v au =>au =Own v k e len (vs.map (·.cells.toList)).flatten::aa :=
 fun o ρ w ho hkn hw=>by
  obtain ⟨i,ej,hi,hz,hs,hby,mS,hzl⟩:=he;subst hs mS;have hzs:ej.cells.size=i.size:=by simpa using hzl
  have fh :∀ v∈vs,v.cells.size=i.size:=fun v hv=>Nat.eq_of_beq_eq_true (List.all_eq_true.1 hvs v hv);have T3 :¬ (16777216<len*i.size):=by omega
  have hvl:((vs.map (·.cells.toList)).flatten).length=len*i.size:=by rw [NI vs fh,Jc _ _ _ hp,hlen]
  have hmap:(parts.map fun (p:Nat × Operand)=>(p.1,ρ p.2)).toList=parts.toList.map fun p=>(p.1,ρ p.2):=Array.toList_map;have hsz:(sizeOf e).run P w=.ok i.size w:=run_sizeOf (by simp [hi]) w;have hrun:(Instr.buildSlice t len (parts.map fun (p:Nat × Operand)=>(p.1,ρ p.2))).run P w =
    .ok (.slice (some ⟨w.heap.size,0,none⟩) len len) (w.alloc (.cells (vs.map (·.cells.toList)).flatten.toArray e)):=by
   have hf:∀ c:Array Value,c.size=len*i.size→Instr.fill (fun j=>some (j*i.size,i.size)) c (parts.map fun (p:Nat × Operand)=>(p.1,ρ p.2)).toList=some ((vs.map (·.cells.toList)).flatten).toArray:=fun c hc=>by
    rw [hmap];exact LP hkn i.size parts.toList 0 vs [] c.toList c hp fh rfl (by simp) (by simp [hc,← hlen])
   by_cases h0:len*i.size=0
   ·simp only [Instr.buildSlice,Sem.run_bind,run_underlying ht,Result.andThen_ok,hsz,h0,if_true,Sem.run_pure,Sem.run_ite]
    rw [hf _ (by simp [h0])]
    simp [newRow]
   ·simp only [Instr.buildSlice,Sem.run_bind,run_underlying ht,Result.andThen_ok,hsz,T3,if_false,h0,Sem.run_pure,Sem.run_ite,zeroValue,typeInfo,run_program,hi,hz]
    rw [hf _ (by simp)]
    simp [newRow]
  refine ⟨.slice (some ⟨w.heap.size,0,none⟩) len len,w.alloc (.cells (vs.map (·.cells.toList)).flatten.toArray e),_,rfl,?_,(hw.alloc _).own (Nat.le_refl _) ?_ ?_ ?_⟩
  ·simp only [execOp,ho,Sem.run_bind]
   have:(parts.map fun x=>match x with|(i,x)=>(i,ρ x))=parts.map fun (p:Nat × Operand)=>(p.1,ρ p.2):=rfl;rw [this,hrun];rfl
  ·have:len≤len*i.size:=Nat.le_mul_of_pos_right _ hk
   omega
  ·simpa using hvl
  ·exact List.take_of_length_le (by simpa using Nat.le_of_eq hvl)
theorem oA {o:Oper} {x y:Operand} {ts:Array TypeId} {ρ:Operand→Value} (ho:o.op=.call ⟨.builtin .append,#[x,y],ts⟩) {w w' :World} {v:Value}
  (h:(Builtin.append_ ts o.type #[ρ x,ρ y]).run P w=.ok v w'):(execOp ρ o).run P w=.ok (.value v) w' :=by
 simp [execOp,ho,resolve,invoke,builtin,h]
theorem dj.append {t e k dx:Nat} {z:List Value} {x y:Operand} {v u:Value} {m q:Nat} {cs news:List Value} (ht:P.underlying t=some (.slice e)) (he:cu P e k dx z) (hk:0<k)
  (hx:aE σ x=some v) (hy:aE σ y=some u) (hs:bA aa (Own v k e m cs) ζ) (hu:qm g.h u k q news) (h1:∀ c∈news,c.oneCell' =true) (hb:(m+q)*dx≤140737488355328) (h63:m+q≤9223372036854775807) :
  dj P (.call ⟨.builtin .append,#[x,y],#[t,t]⟩) σ g aa fun v' au =>au =Own v' k e (m+q) (cs++news)::ζ :=
 fun o ρ w ho hkn hw=>by
  obtain ⟨i,ej,hi,hz,hsz,hby,mS,hzl⟩:=he;subst hsz hby mS;have hzs:ej.cells.size=i.size:=by simpa using hzl
  obtain ⟨a,cap,rfl,c1,c2,c3,bR⟩:=hu;have hw1:=hw.eJ hs
  cases a with
  |none =>
   have hq:news=[]:=by
    cases news with
    |nil=>rfl
    |cons c r=>obtain ⟨p,hp,_⟩:=bR 0 (by simp);cases hp
   subst hq;have Hu:q=0:=by
    have:q*i.size=0:=by rw [← c3];rfl
    rcases Nat.mul_eq_zero.1 this with h|h<;>omega
   subst Hu;have hv:∃ a cap,v=.slice a m cap∧m≤cap:=by
    obtain ⟨_,_,_,_,_,_,_,_,_,_,_,_,hA,_⟩:=hw1
    rcases hA with ⟨_,⟨rfl,rfl⟩|⟨b,cap,cur,rfl,_,h1,_⟩⟩
    ·exact ⟨none,0,rfl,Nat.le_refl _⟩
    ·exact ⟨_,cap,rfl,h1⟩
   obtain ⟨a,cp,rfl,hle⟩:=hv;refine ⟨.slice a m cp,w,_,rfl,oA ho ?_,by simpa using hw1⟩;rw [hkn x _ hx,hkn y _ hy]
   cases a<;>simp [Builtin.append_,run_underlying ht,sizeOf,typeInfo,hi,Builtin.lenOf,Builtin.firstCells,storeCells,hle]
  |some a =>
   have hnews:∀ j u,news[j]?=some u→w.cell? (a.add j)=some u:=fun j u hj=>by
    obtain ⟨hjl,rfl⟩:=List.getElem?_eq_some_iff.1 hj;obtain ⟨p,hp,hc⟩:=bR j hjl
    cases hp
    exact Fr.uC hw.ground hc
   have tq:=hkn x _ hx;have tr:=hkn y _ hy;have fresh:∀ (old:Nat),old<m+q→cs.length=m*i.size→ax (w.drew.alloc (.cells (cs.toArray++news.toArray++Builtin.zeroCells ej.cells (grownCap w (m+q) old e - (m+q))) e)) g
     (Own (.slice (some ⟨w.heap.size,0,none⟩) (m+q) (grownCap w (m+q) old e)) i.size e (m+q) (cs++news)::ζ):=by
    intro old ho nx
    have hge:=grownCap_ge w (m+q) old e;have j4:=grownCap_le_maxLen w (m+q) old e (by simpa [maxLen] using h63);have hlen:(cs++news).length=(m+q)*i.size:=by rw [List.length_append,nx,c3,Nat.add_mul]
    refine (((hw1.drop).drewN _ (Nat.le_add_right _ _)).alloc _).own hge (by simpa [maxLen] using j4) ?_ ?_
    ·simp only [Array.size_append,List.size_toArray,size_zeroCells,hzs,nx,c3,← Nat.add_mul]
     congr 1
     omega
    ·simp only [Array.toList_append,List.append_assoc]
     rw [← List.append_assoc,← hlen];exact List.take_left
   obtain ⟨hA,Gg⟩:cs.length=m*i.size∧((v=.slice none 0 0∧m=0)∨∃ b cap cur,v=.slice (some ⟨b,0,none⟩) m cap∧m≤cap∧cap≤9223372036854775807∧cur.size=cap*i.size∧cur.toList.take (m*i.size)=cs ∧
     ∃ fz,ur fz (cap*i.size)∧ax w g (kg b (.cells cur e fz)::ζ)):=by
    obtain ⟨p1,p2,p3,K,hd,s1,s2,k1,k2,kd,t1,t2,⟨hl,hA⟩,hr⟩:=hw1;refine ⟨hl,hA.imp id ?_⟩;rintro ⟨b,cap,cur,rfl,⟨fz,hbk,hz⟩,h1,h2,h3,h4⟩;exact ⟨b,cap,cur,rfl,h1,h2,h3,h4,fz,hz,p1,p2,p3,K,hd,s1,s2,k1,k2,kd,t1,t2,hbk,hr⟩
   rcases Gg with ⟨rfl,rfl⟩|⟨b,cp,cur,rfl,zW,s_,tc,rQ,fz,hfz,lK⟩
   ·have hcs:cs=[]:=List.eq_nil_of_length_eq_zero (by simpa using hA)
    subst hcs
    by_cases hq:q=0
    ·subst hq
     have hn:news=[]:=List.eq_nil_of_length_eq_zero (by simpa using c3);subst hn;refine ⟨.slice none 0 0,w,_,rfl,oA ho ?_,by simpa using hw1⟩;rw [tq,tr]
     simp [Builtin.append_,run_underlying ht,sizeOf,typeInfo,hi,Builtin.lenOf,Builtin.firstCells,loadCells,loadCellsFrom]
    ·have hr:=run_append_nil (P:=P) w t o.type e i ej ht hi hz a q cap news c3 hnews (by omega) (by omega) (by have hb:=hb;simp only [Nat.zero_add] at hb;omega)
     have hf:=fresh 0 (by omega) (by simp);simp only [Nat.zero_add,List.nil_append,Array.empty_append] at hf ⊢;exact ⟨_,_,_,rfl,oA ho (by rw [tq,tr];exact hr),hf⟩
   ·by_cases hroom:m+q≤cp
    ·have hfit:m*i.size+news.length≤cur.size:=by rw [c3,tc,← Nat.add_mul];exact Nat.mul_le_mul_right _ hroom
     have hr:=Pa (P:=P) w t o.type e i ht hi b m cp cur lK.block (by rw [tc];exact hfz) a q cap news c3 hnews h1 hroom hfit;refine ⟨_,_,_,rfl,oA ho (by rw [tq,tr];exact hr),lK.setRow.wO hfz hroom s_ ?_ ?_⟩
     ·simp only [List.size_toArray,List.length_append,List.length_take,List.length_drop,Array.length_toList]
      omega
     ·have hlen:(cs++news).length=(m+q)*i.size:=by rw [List.length_append,hA,c3,Nat.add_mul]
      rw [rQ,← hlen];exact List.take_left
    ·have holds:∀ j u,cs[j]?=some u→w.cell? ((⟨b,0,none⟩:Addr).add j)=some u:=fun j u hj=>by
      have hb0:=lK.block;rw [add_lit,Nat.zero_add];have hjl:=(List.getElem?_eq_some_iff.1 hj).1;rw [← rQ,List.getElem?_take_of_lt (by omega)] at hj
      simpa [World.cell?,hb0] using hj
     have hr:=run_append_grow (P:=P) w t o.type e i ej ht hi hz ⟨b,0,none⟩ m cp cs hA holds a q cap news c3 hnews (by omega) (by omega) (growslice_fits (by omega) hb);exact ⟨_,_,_,rfl,oA ho (by rw [tq,tr];exact hr),fresh cp (by omega) hA⟩
end
end Go.Sp
end
end
