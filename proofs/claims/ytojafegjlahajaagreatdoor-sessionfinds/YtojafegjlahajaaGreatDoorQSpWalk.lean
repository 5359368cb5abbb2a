/- Texts of this proof, one behind the other. -/
import Derived.WalkKit
import Derived.Defers
import Derived.Recover
import Derived.Orders
import Derived.RangeFuncLeaves
set_option linter.unusedSectionVars false
section
/- Texts of this proof. -/
namespace Go.Sp
abbrev Fr:=Nat→Option Obj
namespace Fr
def sub (h k:Fr):Prop:=∀ i o,h i=some o→k i=some o
def cU (h k:Fr):Prop:=∀ i,h i=none∨k i=none
def add (h k:Fr):Fr:=fun i=>(h i).or (k i)
def one (b:Nat) (o:Obj):Fr:=fun i=>if i=b then some o else none
def emp:Fr:=fun _=>none
theorem bY (h:Fr):h.sub h:=fun _ _ x=>x
theorem aI {a b c:Fr} (h:a.sub b) (k:b.sub c):a.sub c:=fun i o x=>k i o (h i o x)
theorem e5 {a b:Fr} (h:a.cU b):b.cU a:=fun i=>(h i).symm
theorem fK {a b a' b' :Fr} (h:a.cU b) (ha:a'.sub a) (hb:b'.sub b):a'.cU b' :=fun i=>by
 rcases h i with x|x
 ·left;cases hx:a' i with
  |none=>rfl
  |some o=>rw [ha i o hx] at x;cases x
 ·right;cases hx:b' i with
  |none=>rfl
  |some o=>rw [hb i o hx] at x;cases x
theorem dh (a b:Fr):a.sub (a.add b):=fun i o h=>by simp [add,h]
theorem dB {a b:Fr} (hd:a.cU b):b.sub (a.add b):=fun i o h=>by
 rcases hd i with x|x
 ·simp [add,x,h]
 ·rw [h] at x;cases x
theorem ia {a b c:Fr} (ha:a.sub c) (hb:b.sub c):(a.add b).sub c:=fun i o h=>by
 simp only [add] at h
 cases hx:a i with
 |none=>rw [hx] at h;exact hb i o (by simpa using h)
 |some x=>rw [hx] at h;exact ha i o (by rw [hx];simpa using h)
theorem p4 {a b c:Fr} (h1:a.cU c) (h2:b.cU c):(a.add b).cU c:=fun i=>by
 rcases h1 i with x|x
 ·rcases h2 i with y|y
  ·left;simp [add,x,y]
  ·exact .inr y
 ·exact .inr x
theorem rK {a b c:Fr} (h1:c.cU a) (h2:c.cU b):c.cU (a.add b):=e5 (p4 (e5 h1) (e5 h2))
theorem ea (a:Fr):emp.cU a:=fun _=>.inl rfl
theorem c6 (a:Fr):emp.sub a:=fun _ _ h=>by cases h
end Fr
abbrev az:=Fr→Prop
def Sat:List az→Fr→Prop
 |[],_=>True
 |A::U,h=>∃ h1 h2:Fr,h1.cU h2∧h1.sub h∧h2.sub h∧A h1∧Sat U h2
theorem Sat.mono:∀ {U:List az} {h k:Fr},h.sub k→Sat U h→Sat U k
 |[],_,_,_,_=>trivial
 |_::_,_,_,hs,⟨h1,h2,hd,a,b,x,y⟩=>⟨h1,h2,hd,Fr.aI a hs,Fr.aI b hs,x,y⟩
theorem Sat.cons {A:az} {U:List az} {h1 h2:Fr} (hd:h1.cU h2) (x:A h1) (y:Sat U h2):Sat (A::U) (h1.add h2) :=
 ⟨h1,h2,hd,Fr.dh _ _,Fr.dB hd,x,y⟩
theorem Sat.append:∀ {U ζ:List az} {h1 h2:Fr},h1.cU h2→Sat U h1→Sat ζ h2→Sat (U++ζ) (h1.add h2)
 |[],_,_,_,hd,_,y=>Sat.mono (Fr.dB hd) y
 |_::_,_,h1,h2,hd,⟨k1,k2,kd,s1,s2,x,y⟩,z=>by
  have d2:k2.cU h2:=Fr.fK hd s2 (Fr.bY _);refine ⟨k1,k2.add h2,Fr.rK kd (Fr.fK hd s1 (Fr.bY _)),Fr.aI s1 (Fr.dh _ _),?_,x,Sat.append d2 y z⟩;exact Fr.ia (Fr.aI s2 (Fr.dh _ _)) (Fr.dB hd)
theorem Sat.split:∀ {U ζ:List az} {h:Fr},Sat (U++ζ) h→∃ h1 h2:Fr,h1.cU h2∧h1.sub h∧h2.sub h∧Sat U h1∧Sat ζ h2
 |[],_,h,x=>⟨Fr.emp,h,Fr.ea _,Fr.c6 _,Fr.bY _,trivial,x⟩
 |_::U,ζ,h,⟨k1,k2,kd,s1,s2,x,y⟩=>by
  obtain ⟨m1,m2,md,t1,t2,p,q⟩:=Sat.split y;have d1:k1.cU m1:=Fr.fK kd (Fr.bY _) t1;have d2:k1.cU m2:=Fr.fK kd (Fr.bY _) t2;exact ⟨k1.add m1,m2,Fr.p4 d2 md,Fr.ia s1 (Fr.aI t1 s2),Fr.aI t2 s2,Sat.cons d1 x p,q⟩
theorem Sat.swap {A B:az} {U:List az} {h:Fr}:Sat (A::B::U) h→Sat (B::A::U) h:=by
 rintro ⟨h1,h2,hd,s1,s2,x,k1,k2,kd,t1,t2,y,z⟩;have d1:h1.cU k1:=Fr.fK hd (Fr.bY _) t1;have d2:h1.cU k2:=Fr.fK hd (Fr.bY _) t2;exact ⟨k1,h1.add k2,Fr.rK (Fr.e5 d1) kd,Fr.aI t1 s2,Fr.ia s1 (Fr.aI t2 s2),y,Sat.cons d2 x z⟩
theorem Sat.fk {A B:az} {U ζ:List az} {h:Fr} (hab:∀ h,A h→B h) (hs:∀ h,Sat U h→Sat ζ h):Sat (A::U) h→Sat (B::ζ) h :=
 fun ⟨h1,h2,hd,s1,s2,x,y⟩=>⟨h1,h2,hd,s1,s2,hab _ x,hs _ y⟩
theorem Sat.perm {U ζ:List az} (p:U.Perm ζ):∀ {h:Fr},Sat U h→Sat ζ h:=by
 induction p with
 |nil=>exact fun x=>x
 |cons A _ ih=>exact fun x=>Sat.fk (fun _ y=>y) (fun _ y=>ih y) x
 |swap A B _=>exact fun x=>Sat.swap x
 |trans _ _ ih1 ih2=>exact fun x=>ih2 (ih1 x)
inductive bg:List az→az→List az→Prop
 |here {A:az} {U:List az}:bg (A::U) A U
 |there {A B:az} {U ζ:List az}:bg U A ζ→bg (B::U) A (B::ζ)
theorem bg.perm {U ζ:List az} {A:az} (s:bg U A ζ):U.Perm (A::ζ):=by
 induction s with
 |here=>exact .refl _
 |there _ ih=>exact (List.Perm.cons _ ih).trans (.swap _ _ _)
structure bn where
 h:Fr
 os:Os
 tape:Nat→Question→Nat
 out:Array (Nat × ByteArray)
 CK:Nat
def bn.add (g:bn) (k:Fr):bn:={ g with h:=g.h.add k }
end Go.Sp
namespace Go
def World.fr (w:World):Sp.Fr:=fun i=>w.heap[i]?
def World.rR (w:World):Sp.bn:=⟨w.fr,w.os,w.tape,w.output,w.drawn⟩
end Go
namespace Go.Sp
def Holds (w:World) (g:bn) (U:List az):Prop :=
 w.os=g.os∧w.tape=g.tape∧(w.output=g.out∧g.CK≤w.drawn)∧∃ h:Fr,g.h.cU h∧g.h.sub w.fr∧h.sub w.fr∧Sat U h
theorem Holds.perm {w:World} {g:bn} {U ζ:List az} (h:Holds w g U) (p:U.Perm ζ):Holds w g ζ :=
 ⟨h.1,h.2.1,h.2.2.1,let ⟨k,a,b,c,d⟩:=h.2.2.2;⟨k,a,b,c,d.perm p⟩⟩
theorem Holds.cB {w:World} {g:bn} {U ζ:List az} {A:az} (h:Holds w g U) (s:bg U A ζ):Holds w g (A::ζ):=h.perm s.perm
theorem Holds.imp {w:World} {g:bn} {U ζ:List az} (h:Holds w g U) (hs:∀ k,Sat U k→Sat ζ k):Holds w g ζ :=
 ⟨h.1,h.2.1,h.2.2.1,let ⟨k,a,b,c,d⟩:=h.2.2.2;⟨k,a,b,c,hs _ d⟩⟩
theorem Holds.wU {w:World} {g:bn} {U ζ:List az} {A:az} (h:Holds w g (A::U)) (hs:∀ k,A k→Sat ζ k):Holds w g (ζ++U) :=
 h.imp fun _ ⟨_,_,hd,s1,s2,x,y⟩=>Sat.mono (Fr.ia s1 s2) (Sat.append hd (hs _ x) y)
theorem Holds.drop {w:World} {g:bn} {U:List az} {A:az} (h:Holds w g (A::U)):Holds w g U :=
 h.imp fun _ ⟨_,_,_,_,s2,_,y⟩=>Sat.mono s2 y
theorem Holds.qD {w:World} {g:bn} {U:List az} (h:Holds w g U):Holds w g []:=h.imp fun _ _=>trivial
theorem Holds.freeze {w:World} {g:bn} {U:List az} {A:az} (h:Holds w g (A::U)) :
  ∃ k:Fr,A k∧g.h.cU k∧Holds w (g.add k) U:=by
 obtain ⟨a,b,c,k,hd,s1,s2,k1,k2,kd,t1,t2,x,y⟩:=h;refine ⟨k1,x,Fr.fK hd (Fr.bY _) t1,a,b,c,k2,?_,Fr.ia s1 (Fr.aI t1 s2),Fr.aI t2 s2,y⟩;exact Fr.p4 (Fr.fK hd (Fr.bY _) t2) kd
theorem Holds.oH {w:World} {g:bn} {U:List az} {A:az} {k:Fr} (h:Holds w (g.add k) U) (x:A k) (hd:g.h.cU k) :
  Holds w g (A::U):=by
 obtain ⟨a,b,c,m,md,s1,s2,y⟩:=h;have d1:k.cU m:=Fr.fK md (Fr.dB hd) (Fr.bY _);have d2:g.h.cU m:=Fr.fK md (Fr.dh _ _) (Fr.bY _);exact ⟨a,b,c,k.add m,Fr.rK hd d2,Fr.aI (Fr.dh _ _) s1,
  Fr.ia (Fr.aI (Fr.dB hd) s1) s2,Sat.cons d1 x y⟩
theorem Holds.zI {w:World} {g:bn} {U ζ:List az} (h:Holds w g (U++ζ)) :
  ∃ k:Fr,Sat ζ k∧g.h.cU k∧Holds w (g.add k) U:=by
 obtain ⟨a,b,c,k,hd,s1,s2,y⟩:=h;obtain ⟨k1,k2,kd,t1,t2,p,q⟩:=Sat.split y;refine ⟨k2,q,Fr.fK hd (Fr.bY _) t2,a,b,c,k1,?_,Fr.ia s1 (Fr.aI t2 s2),Fr.aI t1 s2,p⟩;exact Fr.p4 (Fr.fK hd (Fr.bY _) t1) (Fr.e5 kd)
theorem Holds.Ga {w:World} {g:bn} {U ζ:List az} {k:Fr} (h:Holds w (g.add k) U) (x:Sat ζ k) (hd:g.h.cU k):Holds w g (U++ζ):=by
 obtain ⟨a,b,c,m,md,s1,s2,y⟩:=h;have d1:k.cU m:=Fr.fK md (Fr.dB hd) (Fr.bY _);have d2:g.h.cU m:=Fr.fK md (Fr.dh _ _) (Fr.bY _);refine ⟨a,b,c,m.add k,Fr.rK d2 hd,Fr.aI (Fr.dh _ _) s1,Fr.ia s2 (Fr.aI (Fr.dB hd) s1),Sat.append (Fr.e5 d1) y x⟩
def blk (b:Nat) (o:Obj):az:=fun h=>h b=some o
theorem Holds.ground {w:World} {g:bn} {U:List az} (h:Holds w g U):g.h.sub w.fr:=h.2.2.2.elim fun _ x=>x.2.1
theorem Holds.block {w:World} {g:bn} {U:List az} {b:Nat} {o:Obj} (h:Holds w g (blk b o::U)):w.heap[b]?=some o:=by
 obtain ⟨_,_,_,k,_,_,s2,k1,_,_,t1,_,x,_⟩:=h;exact s2 b o (t1 b o x)
theorem Holds.drewN {w:World} {g:bn} {U:List az} (h:Holds w g U) (n:Nat) (hn:w.drawn≤n):Holds { w with drawn:=n } g U:=⟨h.1,h.2.1,⟨h.2.2.1.1,Nat.le_trans h.2.2.1.2 hn⟩,h.2.2.2⟩
theorem Holds.alloc {w:World} {g:bn} {U:List az} (h:Holds w g U) (o:Obj):Holds (w.alloc o) g (blk w.heap.size o::U):=by
 obtain ⟨a,b,c,k,hd,s1,s2,y⟩:=h;have hlt:∀ {f:Fr} {x:Obj},f.sub w.fr→f w.heap.size=some x→False:=fun hs hx=>by
  have:=hs _ _ hx
  simp [World.fr] at this
 have hn:∀ {f:Fr},f.sub w.fr→f w.heap.size=none:=fun {f} hs=>by
  cases hx:f w.heap.size with
  |none=>rfl
  |some x=>exact (hlt hs hx).elim
 have up:w.fr.sub (w.alloc o).fr:=fun i x hx=>by
  show (w.heap.push o)[i]?=some x
  have hx:w.heap[i]?=some x:=hx;have:i<w.heap.size:=by
   rcases Nat.lt_or_ge i w.heap.size with q|q
   ·exact q
   ·simp [Array.getElem?_eq_none q] at hx
  rw [Array.getElem?_push_lt this];rw [Array.getElem?_eq_getElem this] at hx;exact hx
 have bf:∀ {f:Fr},f.sub w.fr→f.cU (Fr.one w.heap.size o):=fun {f} hs i=>by
  by_cases hi:i=w.heap.size
  ·left;rw [hi];exact hn hs
  ·right;simp [Fr.one,hi]
 refine ⟨a,b,c,(Fr.one w.heap.size o).add k,Fr.rK (bf s1) hd,Fr.aI s1 up,Fr.ia ?_ (Fr.aI s2 up),Sat.cons (Fr.e5 (bf s2)) ?_ y⟩
 ·intro i x hx
  simp only [Fr.one] at hx
  split at hx
  ·rename_i hi;subst hi;cases hx;show (w.heap.push o)[w.heap.size]?=some o;simp
  ·cases hx
 ·simp [blk,Fr.one]
theorem Holds.setBlock {w w' :World} {g:bn} {U:List az} {b:Nat} {o o' :Obj} (h:Holds w g (blk b o::U))
  (hb:w'.heap[b]?=some o') (hne:∀ i,i≠b→w'.heap[i]?=w.heap[i]?) (h1:w'.os=w.os) (h2:w'.tape=w.tape) (h3:w'.output=w.output) (h4:w.drawn≤w'.drawn:=by exact Nat.le_refl _) :
  Holds w' g (blk b o' ::U):=by
 obtain ⟨p,q,r,k,hd,s1,s2,k1,k2,kd,t1,t2,x,y⟩:=h;have x' :k1 b=some o:=x;have Il:g.h b=none:=by
  rcases hd b with z|z
  ·exact z
  ·rw [t1 b o x'] at z;cases z
 have kb:k2 b=none:=by
  rcases kd b with z|z
  ·rw [x'] at z;cases z
  ·exact z
 have keep:∀ {f:Fr},f b=none→f.sub w.fr→f.sub w'.fr:=fun {f} hf hs i z hz=>by
  have:i≠b:=by rintro rfl;rw [hf] at hz;cases hz
  show w'.heap[i]?=_
  rw [hne i this];exact hs i z hz
 have Ku:∀ {f:Fr},f b=none→f.cU (Fr.one b o'):=fun {f} hf i=>by
  by_cases hi:i=b
  ·left;rw [hi];exact hf
  ·right;simp [Fr.one,hi]
 refine ⟨h1.trans p,h2.trans q,⟨h3.trans r.1,Nat.le_trans r.2 h4⟩,(Fr.one b o').add k2,Fr.rK (Ku Il) (Fr.fK hd (Fr.bY _) t2),keep Il s1,Fr.ia ?_ (keep kb (Fr.aI t2 s2)),
  Sat.cons (Fr.e5 (Ku kb)) ?_ y⟩
 ·intro i z hz
  simp only [Fr.one] at hz
  split at hz
  ·rename_i hi;subst hi;cases hz;exact hb
  ·cases hz
 ·simp [blk,Fr.one]
theorem Holds.Kw (w:World):Holds w w.rR []:=⟨rfl,rfl,⟨rfl,Nat.le_refl _⟩,Fr.emp,Fr.e5 (Fr.ea _),Fr.bY _,Fr.c6 _,trivial⟩
theorem Holds.below {w w' :World} (h:Holds w' w.rR []):RowKit.Below w.heap.size w w' :=by
 obtain ⟨a,b,⟨c,_⟩,_,_,s1,_,_⟩:=h;have hb:∀ i,i<w.heap.size→w'.heap[i]?=w.heap[i]?:=fun i hi=>by
  have:=s1 i w.heap[i] (by simp [World.rR,World.fr,hi]);rw [Array.getElem?_eq_getElem hi];exact this
 refine ⟨a,b,c,?_,hb⟩
 rcases Nat.eq_zero_or_pos w.heap.size with hz|hz
 ·omega
 ·rcases Nat.lt_or_ge (w.heap.size - 1) w'.heap.size with q|q
  ·omega
  ·have:=hb (w.heap.size - 1) (by omega)
   rw [Array.getElem?_eq_none q,Array.getElem?_eq_getElem (by omega)] at this
   cases this
theorem aR {A:az} {U:List az}:bg (A::U) A U:=.here
theorem zt {A B:az} {U ζ:List az} (h:bg U A ζ):bg (B::U) A (B::ζ):=.there h
theorem an {α:Type} {a:α} {as bs:List α}:a::as++bs=a::(as++bs):=rfl
theorem aq {α:Type} {as:List α}:[]++as=as:=rfl
theorem au {α:Type} {as:List α}:as++[]=as:=List.append_nil as
end Go.Sp
end
section
/- Texts of this proof. -/
namespace Go.Sp
def nq (ro:Option Nat):Fence:={ fn:=fun _=>True,depth:=none,alive:=false,round:=ro }
theorem V9 (ro:Option Nat) (n:Nat):(nq ro).room n:=fun _ h=>by cases h
def kq (ro:Option Nat) (P:Program) (todo:List Item) (Q:Exit→Act→World→Prop) (a:Act) (w:World):Prop :=
 ∀ (b:Frame) (cs:List Frame),b.roundOf=ro→(∃ fn,P.funcs[b.fn]?=some fn)→∃ e a' w',Q e a' w' ∧ArrivesIn (Machine.fenced P Fence.wide) P (lone (b.atR a todo) cs w) b [] cs e a' w'
section runs
variable {ro:Option Nat} {P:Program} {Q:Exit→Act→World→Prop} {a:Act} {w:World} {k:List Item}
theorem kq.step {todo todo' :List Item} {a' :Act} {w' :World} (hs:∀ (b:Frame) (cs:List Frame),step P (lone (b.atR a todo) cs w)=.next (lone (b.atR a' todo') cs w'))
  (h:kq ro P todo' Q a' w'):kq ro P todo Q a w:=fun b cs hb hf =>
 let ⟨e,a',w',q,r⟩:=h b cs hb hf;⟨e,a',w',q,.of_steps (.one (fenced_wide P _) (hs b cs)) r⟩
theorem kq.nil (h:Q .normal a w):kq ro P [] Q a w:=fun _ _ _ _=>⟨.normal,a,w,h,StepsIn.refl _⟩
theorem kq.ret (h:Q .ret a w):kq ro P (.code .ret::k) Q a w:=fun _ _ _ _=>⟨.ret,a,w,h,fun hb=>⟨_,.one (fenced_wide P _) (stepR_ret hb)⟩,fun _=>⟨k,StepsIn.refl _⟩⟩
def wm (ro:Option Nat) (P:Program) (k:List Item) (Q:Exit→Act→World→Prop):Exit→Act→World→Prop
 |.normal,a,w=>kq ro P k Q a w
 |.panic ch,a,w=>Q (.panic ch) a w
 |.outgrown,a,w=>Q .outgrown a w
 |_,_,_=>False
theorem kq.ops {ops:Array Oper} {l:List Nat} (h:wpOpsIn (nq ro) 0 P ops (wm ro P k Q) l a w):kq ro P (.inRegion ops l::k) Q a w:=by
 intro b cs hb hf
 obtain ⟨e,a',w',hq,gx⟩:=wp_opsIn l a w h b k cs hb trivial (V9 _ _);have gx:ArrivesIn (Machine.fenced P Fence.wide) P (lone (b.atR a (.inRegion ops l::k)) cs w) b k cs e a' w' :=gx
 cases e with
 |normal =>
  obtain ⟨e,BX,w'',q,r⟩:=hq b cs hb hf;exact ⟨e,BX,w'',q,.of_steps gx r⟩
 |panic ch=>exact ⟨_,a',w',hq,gx⟩
 |outgrown=>exact ⟨.outgrown,a',w',hq,gx⟩
 |exit _=>exact hq.elim
 |goto _=>exact hq.elim
 |ret=>exact hq.elim
theorem kq.Uv {ops:Array Oper} {l:List Nat} (h:wpOps P ops (wm none P k Q) l a w):kq none P (.inRegion ops l::k) Q a w:=by
 intro b cs hb hf
 obtain ⟨e,a',w',hq,gx⟩:=wp_ops l a w h b k cs;have gx:=(arrivesIn_iff (I:=Machine.fenced P Fence.wide) (fun _ _=>stepsIn_wide) hb).2 gx;rw [← Frame.atR_of_none hb] at gx
 cases e with
 |normal =>
  obtain ⟨e,BX,w'',q,r⟩:=hq b cs hb hf;exact ⟨e,BX,w'',q,.of_steps gx r⟩
 |panic ch=>exact ⟨_,a',w',hq,gx⟩
 |outgrown=>exact ⟨.outgrown,a',w',hq,gx⟩
 |exit _=>exact hq.elim
 |goto _=>exact hq.elim
 |ret=>exact hq.elim
def eS (P:Program) (fn:Func) (tmps:Array Value) (R:Ending→World→Prop):List Deferred→FrameMode→World→Prop
 |[],u,w=>Leaves P fn tmps R [] u w
 |d::ds,u,w=>u≠.run∧((∃ r w',d.target=.collected r∧(Instr.takeDeferred r).run P w=.ok [] w' ∧eS P fn tmps R ds u w') ∨
   ∃ fv cap f args,d.target=.fn fv cap∧(invoke d.target d.args).run P w=.ok (.enter f args) w ∧
   CallsD P f args u w fun
    |.returned _,u',w' =>eS P fn tmps R ds (settle u') w'
    |.panicked chain,u',w' =>eS P fn tmps R ds (raised u' chain) w'
    |.outgrown,_,w' =>R .outgrown w')
theorem eS.of {fn:Func} {tmps:Array Value} {R:Ending→World→Prop}:∀ {ds:List Deferred} {u:FrameMode} {w:World},Leaves P fn tmps R ds u w→eS P fn tmps R ds u w
 |[],_,_,h=>h
 |d::ds,u,w,h=>by
  obtain ⟨h1,fv,cap,f,args,h2,h3,h4⟩:=h;refine ⟨h1,.inr ⟨fv,cap,f,args,h2,h3,h4.mono fun e u' w' hR=>?_⟩⟩
  cases e with
  |returned v=>exact eS.of hR
  |panicked ch=>exact eS.of hR
  |outgrown=>exact hR
theorem E8 {fn:Func} {tmps:Array Value} {R:Ending→World→Prop}:∀ (ds:List Deferred) (u:FrameMode) (w:World) (fr:Frame)
  (cs:List Frame),fr.mode=u→fr.defers=ds→fr.tmps=tmps→P.funcs[fr.fn]?=some fn→fr.kind=.normal→eS P fn tmps R ds u w →
  ∃ e w' fr',R e w' ∧Comes P (lone fr cs w) (lone fr' cs w') e∧fr'.fn=fr.fn∧fr'.leaving P w' e:=by
 intro ds
 induction ds with
 |nil=>exact fun u w fr cs hu hd ht hf hk h=>leaves_steps [] u w fr cs hu hd ht hf hk h
 |cons d ds ih =>
  intro u w fr cs hu hd ht hf hk h
  obtain ⟨hrun,h⟩:=h
  rcases h with ⟨r,w',t_,EL,EH⟩|⟨fv,cap,f,args,t_,hinv,tH⟩
  ·have h1:=step_collected (cs:=cs) (hu ▸ hrun) hd t_ EL
   obtain ⟨e',w'',fr',o_,hs',oq,hl'⟩:=ih u w' { fr with defers:=[]++ds } cs hu rfl ht hf hk EH;exact ⟨e',w'',fr',o_,Comes.of_steps (.one h1) hs',oq,hl'⟩
  ·have h1:=step_defer (cs:=cs) (hu ▸ hrun) hd t_ hinv
   obtain ⟨e,u',w',OC,hR,qU,DT,tK⟩:=tH { fr with defers:=ds } cs hu
   cases e with
   |returned v =>
    have h2:=step_going_returned (c:={ { fr with defers:=ds } with mode:=u' }) (cs:=cs) DT tK;obtain ⟨e',w'',fr',o_,hs',oq,hl'⟩:=ih (settle u') w' { { { fr with defers:=ds } with mode:=u' } with mode:=settle u' } cs rfl rfl ht hf hk hR;exact ⟨e',w'',fr',o_,Comes.of_steps (.head h1 (Steps.trans qU (.one h2))) hs',oq,hl'⟩
   |panicked chain =>
    have h2:=step_going_panicked (c:={ { fr with defers:=ds } with mode:=u' }) (cs:=cs) tK;obtain ⟨e',w'',fr',o_,hs',oq,hl'⟩:=ih (raised u' chain) w' { { { fr with defers:=ds } with mode:=u' } with mode:=raised u' chain } cs rfl rfl ht hf hk hR;exact ⟨e',w'',fr',o_,Comes.of_steps (.head h1 (Steps.trans qU (.one h2))) hs',oq,hl'⟩
   |outgrown=>exact ⟨.outgrown,w',fr,hR,Outgrown.of_steps (.one h1) qU,rfl,trivial⟩
def Post (ro:Option Nat) (P:Program) (fn:Func) (R:Ending→World→Prop):Exit→Act→World→Prop
 |.normal,a,w=>match ro with|none=>eS P fn a.tmps R a.defers .returning w|some l=>∃ v w',(Instr.endRound l none).run P w=.ok v w' ∧R (.returned v) w'
 |.ret,a,w=>match ro with|none=>eS P fn a.tmps R a.defers .returning w|some l=>∃ v w',(Instr.endRound l (some .ret)).run P w=.ok v w' ∧R (.returned v) w'
 |.exit id,_,w=>match ro with|none=>False|some l=>∃ v w',(Instr.endRound l (some (.exit id))).run P w=.ok v w' ∧R (.returned v) w'
 |.goto _,_,_=>False
 |.panic ch,a,w=>match ro with|none=>eS P fn a.tmps R a.defers (.panicking ch) w|some _=>a.defers=[]∧R (.panicked ch) w
 |.outgrown,_,w=>R .outgrown w
theorem Post.panic {fn:Func} {R:Ending→World→Prop} {ch:List PanicEntry} (hd:a.defers=[]) (h:R (.panicked ch) w):Post ro P fn R (.panic ch) a w:=by
 cases ro with
 |none=>show eS P fn a.tmps R a.defers (.panicking ch) w;rw [hd];exact h
 |some l=>exact ⟨hd,h⟩
theorem Nh {f:FuncId} {fn:Func} {c:Code} {args:Array Value} {R:Ending→World→Prop}
  (hf:P.funcs[f]?=some fn) (hb:fn.body=some c)
  (h:kq none P [.code c] (Post none P fn R) { tmps:=args++Array.replicate (fn.ntmps - args.size) undef,defers:=[] } w):Calls P f args w R:=by
 intro cs
 let b:Frame:={ (default:Frame) with fn:=f,kind:=.normal,roundOf:=none }
 have xl:Frame.enter P f args .normal =
   b.atR { tmps:=args++Array.replicate (fn.ntmps - args.size) undef,defers:=[] } [.code c]:=by
  simp [Frame.enter,Frame.atR,hf,hb,b]
 obtain ⟨e,a',w',hq,gx⟩:=h b cs rfl ⟨fn,hf⟩;rw [← xl] at gx
 cases e with
 |normal =>
  obtain ⟨e',w'',fr',hR,hs,hfn,hl⟩:=E8 a'.defers .returning w' { b.atR a' [] with mode:=.returning } cs rfl rfl rfl hf rfl hq;exact ⟨e',w'',fr',hR,Comes.of_steps (Steps.trans (StepsIn.steps gx) (.one (stepR_end rfl))) hs,hfn,hl⟩
 |ret =>
  obtain ⟨todo,tZ⟩:=gx.1 rfl;obtain ⟨e',w'',fr',hR,hs,hfn,hl⟩:=E8 a'.defers .returning w' { b.atR a' todo with mode:=.returning } cs rfl rfl rfl hf rfl hq;exact ⟨e',w'',fr',hR,Comes.of_steps tZ.steps hs,hfn,hl⟩
 |panic chain =>
  obtain ⟨todo,tZ⟩:=gx;obtain ⟨e',w'',fr',hR,hs,hfn,hl⟩:=E8 a'.defers (.panicking chain) w' { b.atR a' todo with mode:=.panicking chain } cs rfl rfl rfl hf rfl hq;exact ⟨e',w'',fr',hR,Comes.of_steps tZ.steps hs,hfn,hl⟩
 |exit id=>exact hq.elim
 |goto l=>exact hq.elim
 |outgrown=>exact ⟨.outgrown,w',b,hq,gx.resolve_left (by simp [b]),rfl,trivial⟩
theorem Wb {l f:Nat} {fn:Func} {tmps:Array Value} {assign body:Code} {R:Ending→World→Prop} (hf:∃ fn,P.funcs[f]?=some fn)
  (h:kq (some l) P [.code assign,.beginRound,.code body] (Post (some l) P fn R) { tmps:=tmps,defers:=[] } w):RoundIn Fence.wide 0 P l f tmps assign body w R:=by
 refine ⟨trivial,fun c cs hr=>?_⟩
 let b:Frame:={ (default:Frame) with fn:=f,kind:=.normal,roundOf:=some l }
 have hb0:Frame.round l f tmps assign body .normal=b.atR { tmps:=tmps,defers:=[] } [.code assign,.beginRound,.code body]:=by
  simp [Frame.round,Frame.atR,b]
 obtain ⟨e,a',w',hq,gx⟩:=h b (c::cs) rfl hf;rw [← hb0] at gx
 cases e with
 |normal =>
  obtain ⟨v,yM,hend,hR⟩:=hq;exact ⟨.returned v,yM,hR,StepsIn.trans gx (.one (fenced_wide P _) (stepR_round_end rfl rfl hend))⟩
 |ret =>
  obtain ⟨v,yM,hend,hR⟩:=hq;obtain ⟨k₁,hs⟩:=gx.2 rfl;exact ⟨.returned v,yM,hR,StepsIn.trans hs (.one (fenced_wide P _) (stepR_round_ret rfl rfl hend))⟩
 |exit id =>
  obtain ⟨v,yM,hend,hR⟩:=hq;obtain ⟨k₁,hk,hs⟩:=gx.2 rfl rfl;exact ⟨.returned v,yM,hR,StepsIn.trans hs (.one (fenced_wide P _) (stepR_round_exit rfl rfl hk hend))⟩
 |goto t=>exact hq.elim
 |panic chain =>
  obtain ⟨hd,hR⟩:=hq;obtain ⟨todo,hs⟩:=gx;refine ⟨.panicked chain,w',hR,StepsIn.trans hs (.one (fenced_wide P _) ?_)⟩;exact step_leave_panicked (fr:={ b.atR a' todo with mode:=.panicking chain }) ⟨rfl,hd,hf⟩
 |outgrown=>exact ⟨.outgrown,w',hq,gx.resolve_left (by simp [b])⟩
end runs
def look:List (Nat × Value)→Nat→Option Value
 |[],_=>none
 |(s,v)::σ,t=>match Nat.beq s t with|true=>some v|false=>look σ t
def aA (σ:List (Nat × Value)):Operand→Option Value
 |.tmp t=>look σ t
 |.const v=>some v
 |.global g=>some (.pointer (some ⟨g,0,none⟩))
 |.func f=>some (.func (.func f) #[] #[])
def Sub (σ' σ:List (Nat × Value)):Prop:=∀ t v,look σ' t=some v→look σ t=some v
theorem Sub.nil {σ:List (Nat × Value)}:Sub [] σ:=fun _ _ h=>by cases h
theorem Sub.refl {σ:List (Nat × Value)}:Sub σ σ:=fun _ _ h=>h
theorem Sub.cons {σ σ' :List (Nat × Value)} {t:Nat} {v:Value} (h:look σ t=some v) (hs:Sub σ' σ):Sub ((t,v)::σ') σ:=fun s u hu=>by
 simp only [look] at hu
 split at hu
 ·rename_i hb;cases hu;rw [← Nat.eq_of_beq_eq_true hb];exact h
 ·exact hs s u hu
def Fits (a:Act) (n:Nat) (σ:List (Nat × Value)):Prop:=a.tmps.size=n∧∀ t v,look σ t=some v→a.tmps[t]?=some v
theorem Fits.sub {a:Act} {n:Nat} {σ σ' :List (Nat × Value)} (h:Fits a n σ) (hs:Sub σ' σ):Fits a n σ' :=⟨h.1,fun t v x=>h.2 t v (hs t v x)⟩
theorem Fits.eval {a:Act} {n:Nat} {σ:List (Nat × Value)} (h:Fits a n σ) {x:Operand} {v:Value} (hx:aA σ x=some v):a.eval x=v:=by
 cases x with
 |tmp t=>have:=h.2 t v hx;simp only [Act.eval,Array.getD_eq_getD_getElem?,this,Option.getD_some]
 |const u=>simpa [aA,Act.eval] using hx
 |global g=>simpa [aA,Act.eval] using hx
 |func f=>simpa [aA,Act.eval] using hx
theorem Fits.put {a:Act} {n d:Nat} {σ:List (Nat × Value)} {v:Value} (h:Fits a n σ) (hd:Nat.blt d n=true):Fits (a.put (some d) v) n ((d,v)::σ):=by
 have l5 :d<a.tmps.size:=by rw [h.1];exact of_decide_eq_true (by simpa [Nat.blt_eq] using hd)
 refine ⟨by simp [Act.put,h.1],fun t u hu=>?_⟩;simp only [look] at hu
 split at hu
 ·rename_i hb;cases hu;have:=Nat.eq_of_beq_eq_true hb;subst this
  simp [Act.put,Array.getElem?_setIfInBounds_self_of_lt l5]
 ·rename_i hb
  have hne:d≠t:=by rintro rfl;simp at hb
  have:=h.2 t u hu;simp only [Act.put,Array.getElem?_setIfInBounds_ne hne,this]
def ni (σ:List (Nat × Value)) (ρ:Operand→Value):Prop:=∀ x v,aA σ x=some v→ρ x=v
theorem Fits.j_ {a:Act} {n:Nat} {σ:List (Nat × Value)} (h:Fits a n σ):ni σ a.eval:=fun _ _ hx=>h.eval hx
def aG (P:Program) (op:Op) (σ:List (Nat × Value)) (g:bn) (U:List az) (v:Value) (ax :List az):Prop :=
 ∀ (o:Oper) (ρ:Operand→Value) (w:World),o.op=op→ni σ ρ→Holds w g U→∃ w',(execOp ρ o).run P w=.ok (.value v) w' ∧Holds w' g ax
def kn (P:Program) (op:Op) (σ:List (Nat × Value)) (g:bn) (U:List az) (ax :List az):Prop :=
 ∀ (o:Oper) (ρ:Operand→Value) (w:World),o.op=op→ni σ ρ→Holds w g U→∃ w',(execOp ρ o).run P w=.ok .skip w' ∧Holds w' g ax
def Gw (P:Program) (op:Op) (σ:List (Nat × Value)) (g:bn) (U:List az) (ax :List az):Prop :=
 ∀ (o:Oper) (ρ:Operand→Value) (w:World),o.op=op→ni σ ρ→Holds w g U→∃ w' u,(execOp ρ o).run P w=.ok u w' ∧(u=.skip∨∃ v,u=.value v)∧Holds w' g ax
theorem kn.v {P:Program} {op:Op} {σ:List (Nat × Value)} {g:bn} {U ax :List az} (h:kn P op σ g U ax):Gw P op σ g U ax :=fun o ρ w h1 h2 h3=>let ⟨w',a,b⟩:=h o ρ w h1 h2 h3;⟨w',.skip,a,.inl rfl,b⟩
def S (ro:Option Nat) (P:Program) (fn:Func) (n:Nat) (R:Ending→World→Prop) (todo:List Item) (σ:List (Nat × Value)) (D:List Deferred) (g:bn) (U:List az):Prop :=
 ∀ a w,Fits a n σ→a.defers=D→Holds w g U→kq ro P todo (Post ro P fn R) a w
def O (ro:Option Nat) (P:Program) (fn:Func) (n:Nat) (R:Ending→World→Prop) (ops:Array Oper) (l:List Nat) (k:List Item) (σ:List (Nat × Value)) (D:List Deferred) (g:bn) (U:List az):Prop :=
 ∀ a w,Fits a n σ→a.defers=D→Holds w g U→wpOpsIn (nq ro) 0 P ops (wm ro P k (Post ro P fn R)) l a w
section rules
variable {ro:Option Nat} {P:Program} {fn:Func} {n:Nat} {R:Ending→World→Prop} {k:List Item} {σ σ' :List (Nat × Value)} {D:List Deferred} {g:bn} {U ax :List az}
theorem S.weaken {todo:List Item} (hs:Sub σ' σ) (h:S ro P fn n R todo σ' D g U):S ro P fn n R todo σ D g U:=fun a w hf hd hw=>h a w (hf.sub hs) hd hw
theorem S.perm {todo:List Item} (p:U.Perm ax) (h:S ro P fn n R todo σ D g ax):S ro P fn n R todo σ D g U:=fun a w hf hd hw=>h a w hf hd (hw.perm p)
theorem S.cB {todo:List Item} {A:az} {ζ:List az} (s:bg U A ζ) (h:S ro P fn n R todo σ D g (A::ζ)):S ro P fn n R todo σ D g U:=S.perm s.perm h
theorem S.drop {todo:List Item} {A:az} (h:S ro P fn n R todo σ D g U):S ro P fn n R todo σ D g (A::U):=fun a w hf hd hw=>h a w hf hd hw.drop
theorem S.imp {todo:List Item} (hs:∀ k,Sat U k→Sat ax k) (h:S ro P fn n R todo σ D g ax):S ro P fn n R todo σ D g U:=fun a w hf hd hw=>h a w hf hd (hw.imp hs)
theorem S.wU {todo:List Item} {A:az} {ζ:List az} (hs:∀ k,A k→Sat ζ k) (h:S ro P fn n R todo σ D g (ζ++U)):S ro P fn n R todo σ D g (A::U) :=
 fun a w hf hd hw=>h a w hf hd (hw.wU hs)
theorem S.th {todo:List Item} {α:Type} {A:α→az} (h:∀ x,S ro P fn n R todo σ D g (A x::U)):S ro P fn n R todo σ D g ((fun k=>∃ x,A x k)::U) :=
 fun a w hf hd hw=>by
  obtain ⟨p,q,r,k,d,s1,s2,k1,k2,kd,t1,t2,⟨x,hx⟩,y⟩:=hw;exact h x a w hf hd ⟨p,q,r,k,d,s1,s2,k1,k2,kd,t1,t2,hx,y⟩
theorem S.freeze {todo:List Item} {A:az} (h:∀ k:Fr,A k→g.h.cU k→S ro P fn n R todo σ D (g.add k) U):S ro P fn n R todo σ D g (A::U) :=
 fun a w hf hd hw=>by
  obtain ⟨k,hk,hdj,hw'⟩:=hw.freeze;exact h k hk hdj a w hf hd hw'
theorem S.oH {todo:List Item} {A:az} {k:Fr} (hk:A k) (hdj:g.h.cU k) (h:S ro P fn n R todo σ D g (A::U)):S ro P fn n R todo σ D (g.add k) U :=
 fun a w hf hd hw=>h a w hf hd (hw.oH hk hdj)
theorem S.seq {x y:Code} (h:S ro P fn n R (.code x::.code y::k) σ D g U):S ro P fn n R (.code (.seq x y)::k) σ D g U :=
 fun a w hf hd hw=>.step (fun _ _=>stepR_seq) (h a w hf hd hw)
theorem S.skip (h:S ro P fn n R k σ D g U):S ro P fn n R (.code .skip::k) σ D g U:=fun a w hf hd hw=>.step (fun _ _=>stepR_skip) (h a w hf hd hw)
theorem S.inBlock {id:Nat} (h:S ro P fn n R k σ D g U):S ro P fn n R (.inBlock id::k) σ D g U:=fun a w hf hd hw=>.step (fun _ _=>stepR_inBlock) (h a w hf hd hw)
theorem S.block {id:Nat} {c:Code} (h:S ro P fn n R (.code c::.inBlock id::k) σ D g U):S ro P fn n R (.code (.block id c)::k) σ D g U :=
 fun a w hf hd hw=>.step (fun _ _=>stepR_block) (h a w hf hd hw)
theorem S.exit {id:Nat} {k' :List Item} (hk:exitTo id k=some k') (h:S ro P fn n R k' σ D g U):S ro P fn n R (.code (.exit id)::k) σ D g U :=
 fun a w hf hd hw=>.step (fun _ _=>stepR_exit hk) (h a w hf hd hw)
theorem S.bx {c:Operand} {x y:Code} (hc:aA σ c=some (.bool true)) (h:S ro P fn n R (.code x::k) σ D g U):S ro P fn n R (.code (.cond c x y)::k) σ D g U :=
 fun a w hf hd hw=>.step (fun _ _=>stepR_cond (hf.eval hc)) (h a w hf hd hw)
theorem S.aQ {c:Operand} {x y:Code} (hc:aA σ c=some (.bool false)) (h:S ro P fn n R (.code y::k) σ D g U):S ro P fn n R (.code (.cond c x y)::k) σ D g U :=
 fun a w hf hd hw=>.step (fun _ _=>stepR_cond (hf.eval hc)) (h a w hf hd hw)
theorem S.b_ {c:Operand} {x y:Code} {b:Bool} (hc:aA σ c=some (.bool b)) (ht:b=true→S ro P fn n R (.code x::k) σ D g U) (hf:b=false→S ro P fn n R (.code y::k) σ D g U) :
  S ro P fn n R (.code (.cond c x y)::k) σ D g U:=by
 cases b
 ·exact S.aQ hc (hf rfl)
 ·exact S.bx hc (ht rfl)
theorem S.cm {c:Operand} {x y:Code} {p:Prop} [Decidable p] (hc:aA σ c=some (.bool (decide p))) (ht:p→S ro P fn n R (.code x::k) σ D g U) (hf:¬p→S ro P fn n R (.code y::k) σ D g U) :
  S ro P fn n R (.code (.cond c x y)::k) σ D g U :=
 S.b_ hc (fun h=>ht (of_decide_eq_true h)) (fun h=>hf (of_decide_eq_false h))
theorem S.loop {ι:Type} {c:Code} (φ:ι→Prop) (σs:ι→List (Nat × Value)) (iK:ι→List az) (μ:ι→Nat) (iJ:ι) (h₀:φ iJ) (qY:Sub (σs iJ) σ) (j9:U=iK iJ)
  (round:∀ x,φ x→(∀ y,φ y→μ y<μ x→S ro P fn n R (.inLoop c::k) (σs y) D g (iK y))→S ro P fn n R (.code c::.inLoop c::k) (σs x) D g (iK x)) :
  S ro P fn n R (.code (.loop c)::k) σ D g U:=by
 have key:∀ m x,μ x=m→φ x→S ro P fn n R (.code c::.inLoop c::k) (σs x) D g (iK x):=by
  intro m
  induction m using Nat.strongRecOn with
  |_ m ih =>
   intro x hm hx
   refine round x hx fun y hy hlt a w hf hd hw=>.step (fun _ _=>stepR_inLoop) (ih (μ y) (hm ▸ hlt) y rfl hy a w hf hd hw)
 subst j9;exact fun a w hf hd hw=>.step (fun _ _=>stepR_loop) (key _ iJ rfl h₀ a w (hf.sub qY) hd hw)
theorem S.region {id:Nat} {ops:Array Oper} {l:List Nat} (hl:List.range ops.size=l) (h:O ro P fn n R ops l k σ D g U):S ro P fn n R (.code (.region id ops false)::k) σ D g U :=
 fun a w hf hd hw=>.step (fun _ _=>stepR_region) (.ops (hl ▸ h a w hf hd hw))
theorem O.nil {ops:Array Oper} (h:S ro P fn n R k σ D g U):O ro P fn n R ops [] k σ D g U:=fun a w hf hd hw=>h a w hf hd hw
theorem O.weaken {ops:Array Oper} {l:List Nat} (hs:Sub σ' σ) (h:O ro P fn n R ops l k σ' D g U):O ro P fn n R ops l k σ D g U:=fun a w hf hd hw=>h a w (hf.sub hs) hd hw
def yf (ops:Array Oper) (i n:Nat):Option (Nat × Op) :=
 match ops[i]? with
 |some ⟨some d,op,_,_,_,none⟩=>match Nat.blt d n with|true=>some (d,op)|false=>none
 |_=>none
def kf (ops:Array Oper) (i:Nat):Option Op :=
 match ops[i]? with
 |some ⟨none,op,_,_,_,none⟩=>some op
 |_=>none
def su (ops:Array Oper) (i n:Nat):Option (Nat × Op × Nat × Bool) :=
 match ops[i]? with
 |some ⟨some d,op,_,_,_,some (j,want)⟩ =>
  match Nat.blt d n,ops[j]? with
  |true,some o=>match o.dst with|some t=>some (d,op,t,want)|none=>none
  |_,_=>none
 |_=>none
theorem AJ {ops:Array Oper} {i n d:Nat} {op:Op} (h:yf ops i n=some (d,op)) :
  ∃ o,ops[i]?=some o∧o.dst=some d∧o.op=op∧o.guard=none∧Nat.blt d n=true:=by
 unfold yf at h
 split at h
 ·rename_i d' op' _ _ _ ho
  split at h
  ·rename_i hb;cases h;exact ⟨_,ho,rfl,rfl,rfl,hb⟩
  ·cases h
 ·cases h
theorem pM {ops:Array Oper} {i:Nat} {op:Op} (h:kf ops i=some op):∃ o,ops[i]?=some o∧o.dst=none∧o.op=op∧o.guard=none:=by
 unfold kf at h
 split at h
 ·rename_i op' _ _ _ ho;cases h;exact ⟨_,ho,rfl,rfl,rfl⟩
 ·cases h
theorem sv {ops:Array Oper} {i n d t:Nat} {op:Op} {want:Bool} (h:su ops i n=some (d,op,t,want)) :
  ∃ o j oj,ops[i]?=some o∧o.dst=some d∧o.op=op∧o.guard=some (j,want)∧ops[j]?=some oj∧oj.dst=some t∧Nat.blt d n=true:=by
 unfold su at h
 split at h
 ·rename_i d' op' _ _ _ j want' ho
  split at h
  ·rename_i oj hb hj
   split at h
   ·rename_i t' ht;cases h;exact ⟨_,_,_,ho,rfl,rfl,rfl,hj,ht,hb⟩
   ·cases h
  ·cases h
 ·cases h
theorem Yt {ops:Array Oper} {a:Act} {σ:List (Nat × Value)} {n j t:Nat} {oj:Oper} {b:Bool} (hf:Fits a n σ) (hj:ops[j]?=some oj) (ht:oj.dst=some t) (hl:look σ t=some (.bool b)) :
  yielded ops a.tmps j=some b:=by
 simp [yielded,hj,ht,hf.2 t _ hl]
inductive bJ (ops:Array Oper) (i n:Nat) (σ:List (Nat × Value)):Nat→Op→Prop
 |p {d:Nat} {op:Op} (h:yf ops i n=some (d,op)):bJ ops i n σ d op
 |g {d t:Nat} {op:Op} {b:Bool} (h:su ops i n=some (d,op,t,b)) (hl:look σ t=some (.bool b)):bJ ops i n σ d op
theorem bJ.spec {ops:Array Oper} {i n d:Nat} {σ:List (Nat × Value)} {op:Op} (h:bJ ops i n σ d op) :
  ∃ o,ops[i]?=some o∧o.dst=some d∧o.op=op∧(∀ a,Fits a n σ→Region.wanted o (yielded ops a.tmps)=true)∧Nat.blt d n=true:=by
 cases h with
 |p h =>
  obtain ⟨o,a,b,c,d,e⟩:=AJ h;exact ⟨o,a,b,c,fun _ _=>by simp [Region.wanted,d],e⟩
 |g h hl =>
  obtain ⟨o,j,oj,hi,eB,hop,hg,hj,ht,hb⟩:=sv h;exact ⟨o,hi,eB,hop,fun a hf=>by simp [Region.wanted,hg,Yt hf hj ht hl],hb⟩
theorem vN {P:Program} {o:Oper} {ρ:Operand→Value} {w w' :World} {v:Value} (h:(execOp ρ o).run P w=.ok (.value v) w'):∀ c,o.op≠.defer c:=fun c hc=>by
 simp only [execOp,hc,Sem.run_bind] at h
 cases hr:(resolve ρ c o.type).run P w<;>simp [hr,Result.andThen] at h
theorem T_ {P:Program} {o:Oper} {ρ:Operand→Value} {w w' :World} (h:(execOp ρ o).run P w=.ok .skip w'):∀ c,o.op≠.defer c:=fun c hc=>by
 simp only [execOp,hc,Sem.run_bind] at h
 cases hr:(resolve ρ c o.type).run P w<;>simp [hr,Result.andThen] at h
theorem O.mK {ro:Option Nat} {P:Program} {ops:Array Oper} {i:Nat} {o:Oper} {l:List Nat} {a:Act} {w:World} {Q:Exit→Act→World→Prop} {r:Result Next} (hi:ops[i]?=some o) (hg:Region.wanted o (yielded ops a.tmps)=true)
  (dy:∀ c,o.op≠.defer c) (hr:(execOp a.eval o).run P w=r) (h:o.uponIn (nq ro) 0 P a (wpOpsIn (nq ro) 0 P ops Q l) Q r):wpOpsIn (nq ro) 0 P ops Q (i::l) a w:=by
 simp only [wpOpsIn,hi,hg,if_true];exact ⟨fun _ _=>trivial,by rw [Oper.semAt_eq _ _ _ dy,hr];exact h⟩
theorem Co {ro:Option Nat} {P:Program} {f:FuncId} {args:Array Value} {w:World} {K:Ending→World→Prop} (h:Calls P f args w K):((nq ro).depth.isSome=true→1≤0)∧CallsIn (nq ro) (0 - 1) P f args w K :=
 ⟨fun h=>(by cases h),(callsIn_wide (n:=0)).2 h⟩
theorem O.op {ops:Array Oper} {i d:Nat} {l:List Nat} {op:Op} {v:Value} (ho:bJ ops i n σ d op) (dw:aG P op σ g U v ax)
  (h:O ro P fn n R ops l k ((d,v)::σ) D g ax):O ro P fn n R ops (i::l) k σ D g U:=by
 intro a w hf hd hw
 obtain ⟨o,hi,eB,hop,hg,hb⟩:=ho.spec;obtain ⟨w',hrun,hw'⟩:=dw o a.eval w hop hf.j_ hw;refine O.mK hi (hg a hf) (vN hrun) hrun ?_;rw [Oper.uponIn_value,eB];exact h _ _ (hf.put hb) hd hw'
theorem O.bB {ops:Array Oper} {i:Nat} {l:List Nat} {op:Op} (ho:kf ops i=some op) (dw:kn P op σ g U ax)
  (h:O ro P fn n R ops l k σ D g ax):O ro P fn n R ops (i::l) k σ D g U:=by
 intro a w hf hd hw
 obtain ⟨o,hi,eB,hop,hg⟩:=pM ho;obtain ⟨w',hrun,hw'⟩:=dw o a.eval w hop hf.j_ hw;refine O.mK hi (by simp [Region.wanted,hg]) (T_ hrun) hrun ?_;rw [Oper.uponIn_skip,eB];exact h _ _ hf hd hw'
def q8 (b:Bool):Value→Bool|.bool c=>c !=b|_=>true
theorem O.Ul {ops:Array Oper} {i d t:Nat} {l:List Nat} {op:Op} {b:Bool} {v:Value} (ho:su ops i n=some (d,op,t,b)) (hl:look σ t=some v) (hv:q8 b v=true)
  (h:O ro P fn n R ops l k ((d,undef)::σ) D g U):O ro P fn n R ops (i::l) k σ D g U:=by
 intro a w hf hd hw
 obtain ⟨o,j,oj,hi,eB,hop,hg,hj,ht,hb⟩:=sv ho;have PY:Region.wanted o (yielded ops a.tmps)=false:=by
  have:=hf.2 t _ hl
  cases v<;>simp [Region.wanted,hg,yielded,hj,ht,this]
  cases b<;>simp_all [q8]
 simp only [wpOpsIn,hi,PY,Bool.false_eq_true,if_false];rw [eB];exact ⟨fun _ _=>trivial,h _ _ (hf.put hb) hd hw⟩
theorem O.dA {ops:Array Oper} {l:List Nat} {b:Bool} (t:Nat) (hl:look σ t=some (.bool b)) (ht:b=true→O ro P fn n R ops l k ((t,.bool true)::σ) D g U)
  (hf:b=false→O ro P fn n R ops l k ((t,.bool false)::σ) D g U):O ro P fn n R ops l k σ D g U:=by
 cases b
 ·exact O.weaken (Sub.cons hl Sub.refl) (hf rfl)
 ·exact O.weaken (Sub.cons hl Sub.refl) (ht rfl)
theorem O.dK {ops:Array Oper} {l:List Nat} {p:Prop} [Decidable p] (t:Nat) (hl:look σ t=some (.bool (decide p))) (ht:p→O ro P fn n R ops l k ((t,.bool true)::σ) D g U)
  (hf:¬p→O ro P fn n R ops l k ((t,.bool false)::σ) D g U):O ro P fn n R ops l k σ D g U :=
 O.dA t hl (fun h=>ht (of_decide_eq_true h)) (fun h=>hf (of_decide_eq_false h))
theorem V2 {t:Tmp} {v:Value} {a:Act} {w:World} (hr:fn.results=#[.tmp t]) (hf:Fits a n σ) (hl:look σ t=some v):(results fn a.tmps).run P w=.ok v w:=by
 have:=hf.2 t v hl
 simp [results,hr,Array.getD_eq_getD_getElem?,this]
theorem S.ret {t:Tmp} {v:Value} (hr:fn.results=#[.tmp t]) (hl:look σ t=some v) (h:∀ w,Holds w g U→R (.returned v) w):S none P fn n R (.code .ret::k) σ [] g U:=by
 intro a w hf hd hw
 refine .ret ?_;simp only [Post,hd,eS,Leaves];exact ⟨v,V2 hr hf hl,h w hw⟩
theorem S.ez (hr:fn.results=#[]) (h:∀ w,Holds w g U→R (.returned (.tuple #[])) w):S none P fn n R [] σ [] g U:=by
 intro a w hf hd hw
 refine .nil ?_;simp only [Post,hd,eS,Leaves];exact ⟨.tuple #[],by simp [results,hr],h w hw⟩
theorem S.mW {t s:Tmp} {v u:Value} (hr:fn.results=#[.tmp t,.tmp s]) (hl:look σ t=some v) (hl' :look σ s=some u) (h:∀ w,Holds w g U→R (.returned (.tuple #[v,u])) w) :
  S none P fn n R (.code .ret::k) σ [] g U:=by
 intro a w hf hd hw
 refine .ret ?_;simp only [Post,hd,eS,Leaves];refine ⟨.tuple #[v,u],?_,h w hw⟩
 simp [results,hr,Array.getD_eq_getD_getElem?,hf.2 t v hl,hf.2 s u hl']
theorem S.K4 {t s r:Tmp} {v u x:Value} (hr:fn.results=#[.tmp t,.tmp s,.tmp r]) (hl:look σ t=some v) (hl' :look σ s=some u) (P_ :look σ r=some x)
  (h:∀ w,Holds w g U→R (.returned (.tuple #[v,u,x])) w):S none P fn n R (.code .ret::k) σ [] g U:=by
 intro a w hf hd hw
 refine .ret ?_;simp only [Post,hd,eS,Leaves];refine ⟨.tuple #[v,u,x],?_,h w hw⟩
 simp [results,hr,Array.getD_eq_getD_getElem?,hf.2 t v hl,hf.2 s u hl',hf.2 r x P_]
end rules
def ay (P:Program) (f:FuncId) (args:Array Value) (r:Fr) (U:List az) (Post:Ending→List az→Prop):Prop :=
 ∀ g:bn,r.sub g.h→∀ w,Holds w g U→Calls P f args w fun e w' =>∃ ax,Post e ax ∧Holds w' g ax
def aL (K:Value→List az→Prop):Ending→List az→Prop
 |.returned v,U=>K v U
 |_,_=>False
def eN (K:Value→List az→Prop) (X:List PanicEntry→List az→Prop):Ending→List az→Prop
 |.returned v,U=>K v U
 |.panicked ch,U=>X ch U
 |.outgrown,_=>False
section con
variable {ro:Option Nat} {P:Program} {fn:Func} {n:Nat} {f:FuncId} {args:Array Value} {r:Fr} {U:List az} {Post:Ending→List az→Prop}
def slots:List Value→Nat→List (Nat × Value)
 |[],_=>[]
 |v::vs,i=>(i,v)::slots vs (i+1)
theorem E7:∀ (vs:List Value) (i t:Nat) (v:Value),look (slots vs i) t=some v→i≤t∧vs[t - i]?=some v
 |[],_,_,_,h=>by cases h
 |u::vs,i,t,v,h=>by
  simp only [slots,look] at h
  split at h
  ·rename_i hb;cases h;have:=Nat.eq_of_beq_eq_true hb;subst this;simp
  ·rename_i hb
   have hne:i≠t:=by rintro rfl;simp at hb
   obtain ⟨h1,h2⟩:=E7 vs (i+1) t v h;have:t - i=(t - (i+1))+1:=by omega
   exact ⟨by omega,by rw [this];simpa using h2⟩
theorem ay.of {c:Code} (vs:List Value) (ha:args=vs.toArray) (hf:P.funcs[f]?=some fn) (hb:fn.body=some c) (hn:fn.ntmps=n) (hle:Nat.ble vs.length n=true)
  (h:∀ g:bn,r.sub g.h→∀ R:Ending→World→Prop,(∀ e ax w',Post e ax →Holds w' g ax →R e w')→S none P fn n R [.code c] (slots vs 0) [] g U):ay P f args r U Post:=by
 intro g hr w hw
 subst ha hn;refine Nh hf hb (h g hr _ (fun e ax w' hp hh=>⟨ax,hp,hh⟩) _ w ⟨?_,?_⟩ rfl hw)
 ·have:vs.length≤fn.ntmps:=Nat.le_of_ble_eq_true hle
  simp;omega
 ·intro t v hl
  obtain ⟨_,h2⟩:=E7 vs 0 t v hl;simp only [Nat.sub_zero] at h2;have:t<vs.length:=by
   rcases Nat.lt_or_ge t vs.length with q|q
   ·exact q
   ·rw [List.getElem?_eq_none q] at h2;cases h2
  rw [Array.getElem?_append_left (by simpa using this)]
  simpa using h2
theorem ay.mono {Post' :Ending→List az→Prop} (h:ay P f args r U Post) (hp:∀ e ax,Post e ax →Post' e ax):ay P f args r U Post' :=
 fun g hr w hw=>(h g hr w hw).mono fun _ _ ⟨ax,x,y⟩=>⟨ax,hp _ _ x,y⟩
theorem ay.sub {r' :Fr} (h:ay P f args r U Post) (hs:r.sub r'):ay P f args r' U Post:=fun g hr w hw=>h g (Fr.aI hs hr) w hw
theorem ay.frame {ζ:List az} (h:ay P f args r U Post):ay P f args r (U++ζ) fun e ax =>∃ cW,Post e cW∧ax =cW++ζ :=
 fun g hr w hw=>by
  obtain ⟨k,hk,hd,hw'⟩:=hw.zI;exact (h (g.add k) (Fr.aI hr (Fr.dh _ _)) w hw').mono fun _ _ ⟨ax,x,y⟩=>⟨ax ++ζ,⟨ax,x,rfl⟩,y.Ga hk hd⟩
end con
def dG (P:Program) (f:FuncId):Bool :=
 match P.funcs[f]? with
 | some fn => fn.name != "runtime.NumGoroutine" && fn.body.isSome
 |none=>false
def dX (σ:List (Nat × Value)):List Operand→Option (List Value)
 |[]=>some []
 |x::xs=>match aA σ x,dX σ xs with|some v,some vs=>some (v::vs)|_,_=>none
theorem qF {σ:List (Nat × Value)} {ρ:Operand→Value} (hk:ni σ ρ):∀ {xs:List Operand} {vs:List Value},dX σ xs=some vs→xs.map ρ=vs
 |[],_,h=>by cases h;rfl
 |x::xs,vs,h=>by
  simp only [dX] at h
  split at h
  ·rename_i v us hv qV;cases h;simp [hk x v hv,qF hk qV]
  ·cases h
theorem A_ {P:Program} {f:FuncId} (hc:dG P f=true) (args:Array Value) (w:World):(callFunc f args).run P w=.ok (.enter f args) w:=by
 unfold dG at hc
 split at hc
 ·rename_i fn hf
  simp only [Bool.and_eq_true,bne_iff_ne,ne_eq] at hc;have h2:fn.body≠none:=by intro hb;rw [hb] at hc;simp at hc
  simp [callFunc,hf,hc.1,h2]
 ·cases hc
theorem A9 {P:Program} {f:FuncId} {first cap:Array Value} {ρ:Operand→Value} {o:Oper} {x:Operand} {xs:Array Operand} {ts:Array TypeId} (ho:o.op=.call ⟨.value x,xs,ts⟩)
  (hx:ρ x=.func (.func f) first cap) (hc:dG P f=true) (w:World):(execOp ρ o).run P w=.ok (.enter f (first++xs.map ρ++cap)) w:=by
 simp [execOp,ho,resolve,hx,Deferred.ofValue,invoke,A_ hc]
section calls
variable {ro:Option Nat} {P:Program} {fn:Func} {n:Nat} {R:Ending→World→Prop} {k:List Item} {σ:List (Nat × Value)} {D:List Deferred} {g:bn} {U ζ:List az}
 {ops:Array Oper} {i d:Nat} {l:List Nat} {f:FuncId} {x:Operand} {xs:Array Operand} {ts:Array TypeId} {bH:List Value} {K:Value→List az→Prop}
theorem O.call {first cap:Array Value} (ho:bJ ops i n σ d (.call ⟨.value x,xs,ts⟩)) (hx:aA σ x=some (.func (.func f) first cap)) (hc:dG P f=true)
  (hv:dX σ xs.toList=some bH) {args:Array Value} (hargs:first++bH.toArray++cap=args) (con:ay P f args g.h U (aL K))
  (h:∀ v ax,K v ax →O ro P fn n R ops l k ((d,v)::σ) D g (ax ++ζ)):O ro P fn n R ops (i::l) k σ D g (U++ζ):=by
 intro a w hf hd hw
 obtain ⟨o,hi,eB,hop,hg,hb⟩:=ho.spec;have hm:xs.map a.eval=bH.toArray:=by
  rw [← qF hf.j_ hv,← Array.toList_map]
 refine O.mK hi (hg a hf) (by rw [hop];intro c hc;cases hc) (A9 hop (hf.j_ x _ hx) hc w) ?_;rw [Oper.uponIn_enter,hm,hargs];refine Co ?_;refine (con.frame (ζ:=ζ) g (Fr.bY _) w hw).mono fun e w' hh=>?_;obtain ⟨ax,⟨cW,hp,rfl⟩,hw'⟩:=hh
 cases e with
 |returned v =>
  show wpOpsIn (nq ro) 0 P ops _ l (a.put o.dst v) w'
  rw [eB];exact h v cW hp _ _ (hf.put hb) hd hw'
 |panicked _=>exact hp.elim
 |outgrown=>exact hp.elim
theorem O.Hq {first cap:Array Value} {X:List PanicEntry→List az→Prop} (ho:bJ ops i n σ d (.call ⟨.value x,xs,ts⟩)) (hx:aA σ x=some (.func (.func f) first cap)) (hc:dG P f=true)
  (hv:dX σ xs.toList=some bH) {args:Array Value} (hargs:first++bH.toArray++cap=args) (con:ay P f args g.h U (eN K X))
  (hp:∀ ch ax w,X ch ax →Holds w g (ax ++ζ)→R (.panicked ch) w)
  (h:∀ v ax,K v ax →O ro P fn n R ops l k ((d,v)::σ) [] g (ax ++ζ)):O ro P fn n R ops (i::l) k σ [] g (U++ζ):=by
 intro a w hf hd hw
 obtain ⟨o,hi,eB,hop,hg,hb⟩:=ho.spec;have hm:xs.map a.eval=bH.toArray:=by
  rw [← qF hf.j_ hv,← Array.toList_map]
 refine O.mK hi (hg a hf) (by rw [hop];intro c hc;cases hc) (A9 hop (hf.j_ x _ hx) hc w) ?_;rw [Oper.uponIn_enter,hm,hargs];refine Co ?_;refine (con.frame (ζ:=ζ) g (Fr.bY _) w hw).mono fun e w' hh=>?_;obtain ⟨ax,⟨cW,hq,rfl⟩,hw'⟩:=hh
 cases e with
 |returned v =>
  show wpOpsIn (nq ro) 0 P ops _ l (a.put o.dst v) w'
  rw [eB];exact h v cW hq _ _ (hf.put hb) hd hw'
 |panicked ch =>
  exact Post.panic hd (hp ch cW w' hq hw')
 |outgrown=>exact hq.elim
end calls
end Go.Sp
end
