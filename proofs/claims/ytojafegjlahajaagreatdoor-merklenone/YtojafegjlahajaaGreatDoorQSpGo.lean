/- Texts of this proof, one behind the other. -/
import Derived.Test.YtojafegjlahajaaGreatDoorQSpMore
import Derived.Lib.ConvBytes
import Derived.RangeFuncRecord
import Derived.ChangeArms
import Derived.DataReads
import GoSem.ClaimJoined
import Derived.Laws.Strings2
import Derived.Laws.IdiomRangeMap
import Derived.Laws.Externs
import Derived.KernelRfl
section
/- Texts of this proof, one behind the other. -/
section
/- Texts of this proof, one behind the other. -/
section
/- Texts of this proof, one behind the other. -/
section
/- Texts of this proof. -/
namespace Go.Sp
def qval (σ:List (Nat × Value)):Op→Option Value
 |.move x=>ev σ x
 |.assign x=>ev σ x
 |.extract x j=>match ev σ x with|some (.tuple vs)=>vs[j]?|_=>none
 |.pick c x y=>match ev σ c with|some (.bool true)=>ev σ x|some (.bool false)=>ev σ y|_=>none
 |_=>none
theorem qval_does {P:Program} {σ:List (Nat × Value)} {op:Op} {v:Value} (h:qval σ op=some v):isAlloc op=false∧∀ g η,Does P op σ g η v η:=by
 unfold qval at h
 split at h
 ·exact ⟨rfl,fun g η=>.mv h⟩
 ·exact ⟨rfl,fun g η=>.as h⟩
 ·split at h
  ·rename_i e;exact ⟨rfl,fun g η=>.extract e h⟩
  ·cases h
 ·split at h
  ·rename_i e;exact ⟨rfl,fun g η=>.pickT e h⟩
  ·rename_i e;exact ⟨rfl,fun g η=>.pickF e h⟩
  ·cases h
 ·cases h
def qfire (ops:Array Oper) (n i:Nat) (σ:List (Nat × Value)):Option (Nat × Value) :=
 match opAt ops i n with
 |some (d,op)=>match qval σ op with|some v=>some (d,v)|none=>none
 |none=>match opAtG ops i n with
  |some (d,op,t,b)=>match look σ t with
   |some u=>match notB b u with
    |true=>(match isAlloc op with|false=>some (d,undef)|true=>none)
    |false=>match qval σ op with|some v=>some (d,v)|none=>none
   |none=>none
  |none=>none
theorem qfire_spec {ops:Array Oper} {n i d:Nat} {σ:List (Nat × Value)} {v:Value} (h:qfire ops n i σ=some (d,v)) :
  (∃ op,Fires ops i n σ d op∧qval σ op=some v)∨(∃ op t b u,opAtG ops i n=some (d,op,t,b)∧look σ t=some u∧notB b u=true∧isAlloc op=false∧v=undef):=by
 unfold qfire at h
 split at h
 ·rename_i e
  split at h
  ·rename_i e2;cases h;exact .inl ⟨_,.p e,e2⟩
  ·cases h
 ·split at h
  ·rename_i t b e
   split at h
   ·rename_i u e2
    split at h
    ·rename_i e3
     split at h
     ·rename_i e5;cases h;exact .inr ⟨_,_,_,_,e,e2,e3,e5,rfl⟩
     ·cases h
    ·rename_i e3
     split at h
     ·rename_i e4
      cases h
      have hu:u=.bool b:=by
       cases u<;>simp [notB] at e3
       rw [e3]
      subst hu;exact .inl ⟨_,.g e e2,e4⟩
     ·cases h
   ·cases h
  ·cases h
def qrun (ops:Array Oper) (n:Nat):Nat→List Nat→List (Nat × Value)→Option (List Nat × List (Nat × Value))
 |0,l,σ=>some (l,σ)
 |k+1,i::l,σ=>match qfire ops n i σ with|some (d,v)=>qrun ops n k l ((d,v)::σ)|none=>none
 |_+1,[],_=>none
section
variable {ro:Option Nat} {P:Program} {fn:Func} {n:Nat} {R:Ending→World→Prop} {k:List Item} {D:List Deferred} {g:Gr} {η:List SProp} {ops:Array Oper}
theorem O.q:∀ (m:Nat) {l l' :List Nat} {σ σ' :List (Nat × Value)},qrun ops n m l σ=some (l',σ')→O ro P fn n R ops l' k σ' D g η→O ro P fn n R ops l k σ D g η
 |0,_,_,_,_,h,hn=>by cases h;exact hn
 |m+1,[],_,_,_,h,_=>by cases h
 |m+1,i::l,_,σ,_,h,hn=>by
  simp only [qrun] at h
  split at h
  ·rename_i d v e
   have r:=O.q m h hn
   rcases qfire_spec e with ⟨op,h1,h2⟩|⟨op,t,b,u,h1,h2,h3,h4,rfl⟩
   ·exact O.op h1 ((qval_does h2).2 g η) r
   ·exact O.opN h1 h2 h3 r
  ·cases h
theorem OD.q:∀ (m:Nat) {l l' :List Nat} {σ σ' :List (Nat × Value)},qrun ops n m l σ=some (l',σ')→OD P fn n R ops k D g l' σ' η→OD P fn n R ops k D g l σ η
 |0,_,_,_,_,h,hn=>by cases h;exact hn
 |m+1,[],_,_,_,h,_=>by cases h
 |m+1,i::l,_,σ,_,h,hn=>by
  simp only [qrun] at h
  split at h
  ·rename_i d v e
   have r:=OD.q m h hn
   rcases qfire_spec e with ⟨op,h1,h2⟩|⟨op,t,b,u,h1,h2,h3,h4,rfl⟩
   ·exact ODx.quiet h1 (qval_does (P:=P) h2).1 (fun η=>(qval_does h2).2 g η) r
   ·exact ODx.no h1 h4 h2 h3 r
  ·cases h
end
end Go.Sp
end
section
/- Texts of this proof. -/
namespace Go.Sp
def Rp.Pure {α:Type} (T:Rp α):Prop:=∀ (h:Fr) (cs:List Value) (a:α),T.rel h cs a→T.rel Fr.emp cs a
theorem pure_u8:Rp.u8.Pure:=fun _ _ _ h=>h
def OwnP {α:Type} (T:Rp α) (e:TypeId) (v:Value) (xs:List α):SProp:=fun h=>∃ css:List (List Value),All2 (T.rel Fr.emp) css xs∧Own v T.k e xs.length css.flatten h
theorem OwnP.arr {α:Type} {T:Rp α} {e:TypeId} {v:Value} {xs:List α} {h:Fr}:OwnP T e v xs h→Arr T h v xs
 |⟨css,a,b⟩=>⟨css,a.imp fun _ _=>T.mono (Fr.emp_sub _),b.sl⟩
theorem OwnP.shape {α:Type} {T:Rp α} {e:TypeId} {v:Value} {xs:List α} {h:Fr} (x:OwnP T e v xs h):∃ a c,v=.slice a xs.length c:=x.arr.shape
theorem OwnP.of {α:Type} {T:Rp α} {e:TypeId} {v:Value} {xs:List α} {css:List (List Value)} {m:Nat} {cs:List Value} (ha:All2 (T.rel Fr.emp) css xs) (hm:m=xs.length) (hc:cs=css.flatten) {k:Nat} (hk:k=T.k) :
  ∀ h,Own v k e m cs h→OwnP T e v xs h:=by subst hm hc hk;exact fun h x=>⟨css,ha,x⟩
theorem all2_map {α:Type} {T:Rp α} {f:α→List Value} (hf:∀ x,T.rel Fr.emp (f x) x):∀ xs:List α,All2 (T.rel Fr.emp) (xs.map f) xs
 |[]=>trivial
 |x::xs=>⟨hf x,all2_map hf xs⟩
theorem All2.one {α:Type} {T:Rp α} {h:Fr}:∀ {css:List (List Value)} {xs:List α},All2 (T.rel h) css xs→∀ c∈css.flatten,c.oneCell' =true
 |[],[],_,c,hc=>by cases hc
 |_::_,_::_,⟨x,y⟩,c,hc=>by
  simp only [List.flatten_cons,List.mem_append] at hc
  rcases hc with hc|hc
  ·exact T.one x c hc
  ·exact All2.one y c hc
section
variable {ro:Option Nat} {P:Program} {σ σ' :List (Nat × Value)} {g:Gr} {η η' ζ θ:List SProp} {fn:Func} {n:Nat} {R:Ending→World→Prop} {k K:List Item} {D:List Deferred} {ops:Array Oper} {i d:Nat} {l:List Nat} {t e:TypeId} {x y:Operand} {todo:List Item}
theorem DoesE.borrow {op:Op} {Q:Value→List SProp→Prop} {A:SProp} (h:∀ m:Fr,A m→g.h.disj m→DoesE P op σ (g.add m) η Q):DoesE P op σ g (A::η) fun v η' =>∃ η₁,Q v η₁∧η' =A::η₁ :=
 fun o ρ w h1 h2 h3=>by
  obtain ⟨m,hm,hd,hw⟩:=h3.freeze;obtain ⟨v,w',η₁,q,r,hw'⟩:=h m hm hd o ρ w h1 h2 hw;exact ⟨v,w',_,⟨η₁,q,rfl⟩,r,hw'.thaw hm hd⟩
theorem DoesE.appendP {α:Type} {T:Rp α} {by_:Nat} {z:List Value} {v u:Value} {xs ys:List α} (hT:T.Pure) (ht:P.underlying t=some (.slice e)) (he:elemIs P e T.k by_ z) (hk:0<T.k) (hx:ev σ x=some v) (hy:ev σ y=some u)
  (hs:Sel η (OwnP T e v xs) ζ) (hu:Arr T g.h u ys) (hb:(xs.length+ys.length)*by_≤140737488355328) (h63:xs.length+ys.length≤9223372036854775807) :
  DoesE P (.call ⟨.builtin .append,#[x,y],#[t,t]⟩) σ g η fun v' η' =>∃ a c,v' =.slice a (xs.length+ys.length) c∧η' =OwnP T e v' (xs++ys)::ζ:=by
 intro o ρ w h1 h2 h3
 have hw:=h3.sel hs;obtain ⟨p1,p2,p3,K,hd,s1,s2,k1,k2,kd,t1,t2,⟨css,ha,hown⟩,hr⟩:=hw;have hw' :Holds w g (Own v T.k e xs.length css.flatten::ζ):=⟨p1,p2,p3,K,hd,s1,s2,k1,k2,kd,t1,t2,hown,hr⟩;obtain ⟨dss,hda,hsl⟩:=hu;obtain ⟨v',w',η',hη,hrun,hh⟩:=DoesE.append (g:=g) ht he hk hx hy .here hsl (All2.one hda) hb h63 o ρ w h1 h2 hw';subst hη;have hh' :Holds w' g (OwnP T e v' (xs++ys)::ζ):=hh.imp fun _=>Sat.cons_imp (OwnP.of (css:=css++dss) (ha.append (hda.imp fun _ _ q=>hT _ _ _ q)) (by simp) (by simp) rfl) fun _ q=>q;obtain ⟨a,c,hv⟩:∃ a c,v' =.slice a (xs.length+ys.length) c:=by
  obtain ⟨_,_,_,_,_,_,_,k1,_,_,_,_,hA,_⟩:=hh';obtain ⟨a,c,h⟩:=hA.shape;exact ⟨a,c,by simpa using h⟩
 exact ⟨v',w',_,⟨a,c,hv,rfl⟩,hrun,hh'⟩
theorem DoesE.appendL {α:Type} {T:Rp α} {by_ m:Nat} {z cs:List Value} {v u:Value} {xs ys:List α} {dss:List (List Value)} (ht:P.underlying t=some (.slice e)) (he:elemIs P e T.k by_ z) (hk:0<T.k) (hx:ev σ x=some v) (hy:ev σ y=some u)
  (hl:Sel η (Own u T.k e m cs) θ) (hs:Sel θ (OwnP T e v xs) ζ) (hm:m=ys.length) (hc:cs=dss.flatten) (hd:All2 (T.rel Fr.emp) dss ys) (hb:(xs.length+ys.length)*by_≤140737488355328) (h63:xs.length+ys.length≤9223372036854775807) :
  DoesE P (.call ⟨.builtin .append,#[x,y],#[t,t]⟩) σ g η fun v' η' =>∃ a c,v' =.slice a (xs.length+ys.length) c∧η' =OwnP T e v' (xs++ys)::ζ:=by
 subst hm hc
 intro o ρ w h1 h2 h3
 obtain ⟨m,hm,hdj,hw⟩:=(h3.sel hl).freeze;have hw:=hw.sel hs;obtain ⟨p1,p2,p3,K,hdd,s1,s2,k1,k2,kd,t1,t2,⟨css,ha,hown⟩,hr⟩:=hw;have hw' :Holds w (g.add m) (Own v T.k e xs.length css.flatten::ζ):=⟨p1,p2,p3,K,hdd,s1,s2,k1,k2,kd,t1,t2,hown,hr⟩;have hsl:Sl (g.add m).h u T.k ys.length dss.flatten:=hm.sl.mono (Fr.sub_add_right hdj);obtain ⟨v',w',η',hη,hrun,hh⟩:=DoesE.append (g:=g.add m) ht he hk hx hy .here hsl (All2.one hd) hb h63 o ρ w h1 h2 hw';subst hη;have hh' :Holds w' (g.add m) (OwnP T e v' (xs++ys)::ζ):=hh.imp fun _=>Sat.cons_imp (OwnP.of (css:=css++dss) (ha.append hd) (by simp) (by simp) rfl) fun _ q=>q;obtain ⟨a,c,hv⟩:∃ a c,v' =.slice a (xs.length+ys.length) c:=by
  obtain ⟨_,_,_,_,_,_,_,k1,_,_,_,_,hA,_⟩:=hh';obtain ⟨a,c,h⟩:=hA.shape;exact ⟨a,c,by simpa using h⟩
 exact ⟨v',w',_,⟨a,c,hv,rfl⟩,hrun,(hh'.thaw hm hdj).drop⟩
def PtrIn (v:Value) (k j:Nat) (p:Addr):Prop:=∃ b m c,v=.slice (some ⟨b,0,none⟩) m c∧p=⟨b,j*k,none⟩
theorem Holds.ownP_block {α:Type} {T:Rp α} {w:World} {v:Value} {xs:List α} (h:Holds w g (OwnP T e v xs::ζ)) (hne:0<xs.length) :
  ∃ b cap cur css,v=.slice (some ⟨b,0,none⟩) xs.length cap∧xs.length≤cap∧cap≤9223372036854775807∧cur.size=cap*T.k∧cur.toList.take (xs.length*T.k)=css.flatten∧All2 (T.rel Fr.emp) css xs∧∃ fz,Thawed fz (cap*T.k)∧Holds w g (blk b (.cells cur e fz)::ζ):=by
 obtain ⟨p1,p2,p3,K,hdd,s1,s2,k1,k2,kd,t1,t2,⟨css,ha,hl,hA⟩,hr⟩:=h
 rcases hA with ⟨_,h0⟩|⟨b,cap,cur,hv,⟨fz,hb,hz⟩,h1,h2,h3,h4⟩
 ·omega
 ·exact ⟨b,cap,cur,css,hv,h1,h2,h3,h4,ha,fz,hz,p1,p2,p3,K,hdd,s1,s2,k1,k2,kd,t1,t2,hb,hr⟩
theorem DoesE.idxOwn {α:Type} {T:Rp α} {v:Value} {xs:List α} {j:Nat} {kd:IntKind} (ht:P.underlying t=some (.slice e)) (he:(P.info? e).map (·.size)=some T.k) (hx:ev σ x=some v) {zi:Int} (hy:ev σ y=some (.int kd zi)) (hzi:zi=(j:Int))
  (hs:Sel η (OwnP T e v xs) ζ) (hj:j<xs.length):DoesE P (.indexAddr t x y) σ g η fun u η' =>∃ p,u=.pointer (some p)∧PtrIn v T.k j p∧η' =η :=
 fun o ρ w ho hk hw=>by
  subst hzi;obtain ⟨b,cap,cur,css,rfl,_⟩:=(hw.sel hs).ownP_block (by omega);refine ⟨.pointer (some ⟨b,j*T.k,none⟩),w,η,⟨_,rfl,⟨b,_,_,rfl,rfl⟩,rfl⟩,?_,hw⟩;have e1:(⟨b,0,none⟩:Addr).add (j*T.k)=⟨b,j*T.k,none⟩:=by rw [add_lit];simp
  simp [execOp,ho,hk x _ hx,hk y _ hy,Instr.indexAt,asIntOf,run_underlying ht,hj,run_sizeOf he,e1]
theorem set_flat {α:Type} {T:Rp α} {h:Fr} {ds:List Value} {a:α} (hd:T.rel h ds a):∀ {css:List (List Value)} {xs:List α} (j:Nat),All2 (T.rel h) css xs→j<xs.length →
  All2 (T.rel h) (css.set j ds) (xs.set j a)∧(css.set j ds).flatten=css.flatten.take (j*T.k)++ds++css.flatten.drop (j*T.k+T.k)
 |[],[],_,_,hj=>by simp at hj
 |c::css,x::xs,0,⟨hc,hr⟩,_=>by
  have hcl:=T.len hc;refine ⟨⟨hd,hr⟩,?_⟩
  simp [hcl]
 |c::css,x::xs,j+1,⟨hc,hr⟩,hj=>by
  have hcl:=T.len hc;obtain ⟨h1,h2⟩:=set_flat hd j hr (by simpa using hj);refine ⟨⟨hc,h1⟩,?_⟩;have e1:(c++css.flatten).take ((j+1)*T.k)=c++css.flatten.take (j*T.k):=by
   rw [Nat.succ_mul,List.take_append,List.take_of_length_le (l:=c) (by omega)]
   congr 2;omega
  have e2:(c++css.flatten).drop ((j+1)*T.k+T.k)=css.flatten.drop (j*T.k+T.k):=by
   rw [Nat.succ_mul,List.drop_append,List.drop_of_length_le (l:=c) (by omega),List.nil_append]
   congr 1;omega
  simp only [List.set_cons_succ,List.flatten_cons,h2];rw [e1,e2]
  simp
theorem DoesU.storeOwn {α:Type} {T:Rp α} {v u:Value} {xs:List α} {j:Nat} {p:Addr} {a:α} (hsz:(P.info? t).map (·.size)=some T.k) (hx:ev σ x=some (.pointer (some p))) (hp:PtrIn v T.k j p) (hy:ev σ y=some u)
  (hs:Sel η (OwnP T e v xs) ζ) (hj:j<xs.length) (hu:T.rel Fr.emp u.cells.toList a):DoesU P (.store t x y) σ g η (OwnP T e v (xs.set j a)::ζ) :=
 fun o ρ w ho hk hw=>by
  obtain ⟨b,cap,cur,css,rfl,h1,h2,h3,h4,ha,fz,hfz,hwb⟩:=(hw.sel hs).ownP_block (by omega);obtain ⟨b',m',c',he,rfl⟩:=hp
  cases he
  have hul:u.cells.toList.length=T.k:=T.len hu;have hjm:j*T.k+T.k≤xs.length*T.k:=by rw [← Nat.succ_mul];exact Nat.mul_le_mul_right _ hj
  have hmc:xs.length*T.k≤cur.size:=by rw [h3];exact Nat.mul_le_mul_right _ h1
  have hst:=run_storeCells_z P b (j*T.k) e hfz u.cells.toList 0 cur w hwb.block (by omega) (by omega) (T.one hu);simp only [Nat.add_zero,hul] at hst;obtain ⟨q1,q2⟩:=set_flat hu j ha hj;refine ⟨w.setRow b (cur.toList.take (j*T.k)++u.cells.toList++cur.toList.drop (j*T.k+T.k)).toArray,?_,?_⟩
  ·have hc:u.cells.size=T.k:=by rw [← hul];simp
   simp only [List.append_assoc] at hst ⊢
   simp [execOp,ho,hk x _ hx,hk y _ hy,Instr.storeAt,Instr.sureAddr,storeVar,run_sizeOf hsz,hc,hst]
  ·refine (hwb.setRow.ownF hfz (k:=T.k) (m:=xs.length) (cap:=cap) (cs:=(css.set j u.cells.toList).flatten) h1 h2 ?_ ?_).imp fun _=>Sat.cons_imp (OwnP.of q1 (by simp) rfl rfl) fun _ q=>q
   ·simp only [List.size_toArray,List.length_append,List.length_take,List.length_drop,Array.length_toList,hul]
    omega
   ·rw [q2,← h4]
    have l1:(cur.toList.take (j*T.k)).length=j*T.k:=by simp;omega
    simp only [List.append_assoc];rw [List.take_append,l1,List.take_take,Nat.min_eq_right (by omega),List.take_append,hul,List.take_take,Nat.min_eq_left (by omega)];rw [List.take_of_length_le (l:=u.cells.toList) (by omega)]
    congr 2
    rw [List.drop_take]
    congr 1
    omega
theorem Does.loadOwn {α:Type} {T:Rp α} {v:Value} {xs:List α} {j:Nat} {p:Addr} {u:Value} (ht:flat1 P t=true) (hx:ev σ x=some (.pointer (some p))) (hp:PtrIn v T.k j p) (hk1:T.k=1)
  (hs:Sel η (OwnP T e v xs) ζ) (hj:j<xs.length) (hu:∀ cs,T.rel Fr.emp cs xs[j]→cs=[u]):Does P (.load t x) σ g η u η :=
 fun o ρ w ho hk hw=>⟨w,by
  obtain ⟨b,cap,cur,css,rfl,h1,h2,h3,h4,ha,fz,hfz,hwb⟩:=(hw.sel hs).ownP_block (by omega);obtain ⟨b',m',c',he,rfl⟩:=hp
  cases he
  have hjc:j<css.length:=by rw [ha.length];exact hj
  have hg:=ha.flat_get j hjc;rw [hu _ (ha.get j hjc hj),← h4,hk1] at hg;have hb0:=hwb.block;have hc:w.cell? ⟨b,j*T.k,none⟩=some u:=by
   rw [hk1];simp only [World.cell?,hb0];have:(List.take 1 (List.drop (j*1) (cur.toList.take (xs.length*1))))[0]?=some u:=by rw [hg];rfl
   rw [List.getElem?_take_of_lt (by omega),List.getElem?_drop,List.getElem?_take_of_lt (by omega)] at this
   simpa using this
  simp [execOp,ho,hk x _ hx,Instr.loadAt,Instr.sureAddr,loadVar,run_isAgg_flat (flat1_flat ht),hc],hw⟩
theorem reps_flat {α:Type} {T:Rp α} {z:List Value} {a:α} (hz:T.rel Fr.emp z a):∀ m:Nat,∃ css,All2 (T.rel Fr.emp) css (List.replicate m a)∧css.flatten=reps z m
 |0=>⟨[],trivial,rfl⟩
 |m+1=>let ⟨css,h1,h2⟩:=reps_flat hz m;⟨z::css,⟨hz,h1⟩,by simp [reps,h2]⟩
theorem DoesE.makeP {α:Type} {T:Rp α} {by_:Nat} {z:List Value} (a:α) {m:Nat} {kx ky:IntKind} {zx zy:Int} (ht:P.underlying t=some (.slice e)) (he:elemIs P e T.k by_ z) (hk:0<T.k) (hz:T.rel Fr.emp z a)
  (hx:ev σ x=some (.int kx zx)) (hy:ev σ y=some (.int ky zy)) (hzx:zx=(m:Int)) (hzy:zy=(m:Int)) (hb:by_*m≤281474976710656) (h63:m≤9223372036854775807) :
  DoesE P (.makeSlice t x y) σ g η fun v η' =>∃ a' c,v=.slice a' m c∧η' =OwnP T e v (List.replicate m a)::η:=by
 subst hzx hzy
 intro o ρ w h1 h2 h3
 obtain ⟨v,w',η',hη,hrun,hw⟩:=DoesE.make (g:=g) (η:=η) ht he hk hx hy hb h63 o ρ w h1 h2 h3;subst hη;obtain ⟨css,q1,q2⟩:=reps_flat hz m;have hh:Holds w' g (OwnP T e v (List.replicate m a)::η):=hw.imp fun _=>Sat.cons_imp (OwnP.of q1 (by simp) q2.symm rfl) fun _ q=>q;obtain ⟨a',c,hv⟩:∃ a' c,v=.slice a' m c:=by
  obtain ⟨_,_,_,_,_,_,_,k1,_,_,_,_,hA,_⟩:=hh;obtain ⟨a',c,h⟩:=hA.shape;exact ⟨a',c,by simpa using h⟩
 exact ⟨v,w',_,⟨a',c,hv,rfl⟩,hrun,hh⟩
theorem DoesE.makeP0 {α:Type} {T:Rp α} {by_:Nat} {z:List Value} {c:Nat} {kx ky:IntKind} {zx zy:Int} (ht:P.underlying t=some (.slice e)) (he:elemIs P e T.k by_ z)
  (hx:ev σ x=some (.int kx zx)) (hy:ev σ y=some (.int ky zy)) (hzx:zx=0) (hzy:zy=(c:Int)) (hb:by_*c≤281474976710656) (h63:c≤9223372036854775807) :
  DoesE P (.makeSlice t x y) σ g η fun v η' =>∃ a' c,v=.slice a' 0 c∧η' =OwnP T e v []::η:=by
 subst hzx hzy
 intro o ρ w h1 h2 h3
 obtain ⟨v,w',η',hη,hrun,hw⟩:=DoesE.make0 (g:=g) (η:=η) ht he hx hy hb h63 o ρ w h1 h2 h3;subst hη;have hh:Holds w' g (OwnP T e v []::η):=hw.imp fun _=>Sat.cons_imp (OwnP.of (T:=T) (xs:=[]) (css:=[]) trivial (by simp) rfl rfl) fun _ q=>q;obtain ⟨a',c,hv⟩:∃ a' c,v=.slice a' 0 c:=by
  obtain ⟨_,_,_,_,_,_,_,k1,_,_,_,_,hA,_⟩:=hh;obtain ⟨a',c,h⟩:=hA.shape;exact ⟨a',c,by simpa using h⟩
 exact ⟨v,w',_,⟨a',c,hv,rfl⟩,hrun,hh⟩
theorem DoesE.litP {α:Type} {T:Rp α} {by_ len:Nat} {z:List Value} {parts:Array (Nat × Operand)} {vs:List Value} {ys:List α} (ht:P.underlying t=some (.slice e)) (he:elemIs P e T.k by_ z) (hk:0<T.k)
  (hp:partsOf σ parts.toList 0=some vs) (hlen:parts.toList.length=len) (hvs:All2 (T.rel Fr.emp) (vs.map (·.cells.toList)) ys) (h24:len*T.k≤16777216) :
  DoesE P (.buildSlice t len parts) σ g η fun v η' =>∃ a c,v=.slice a len c∧η' =OwnP T e v ys::η:=by
 intro o ρ w h1 h2 h3
 have hl:vs.length=len:=by rw [partsOf_length _ _ _ hp,hlen]
 have hyl:ys.length=len:=by rw [← hvs.length,List.length_map,hl]
 have hall:vs.all (fun v=>Nat.beq v.cells.size T.k)=true:=by
  rw [List.all_eq_true]
  intro v hv
  obtain ⟨i,hi,rfl⟩:=List.mem_iff_getElem.1 hv;have:=T.len (hvs.get i (by simpa using hi) (by omega));have hs:vs[i].cells.size=T.k:=by simpa using this
  rw [hs];exact Nat.beq_refl _
 obtain ⟨v,w',η',hη,hrun,hw⟩:=DoesE.lit (g:=g) (η:=η) ht he hk hp hlen hall h24 o ρ w h1 h2 h3;subst hη;have hh:Holds w' g (OwnP T e v ys::η):=hw.imp fun _=>Sat.cons_imp (OwnP.of hvs hyl.symm rfl rfl) fun _ q=>q;obtain ⟨a',c,hv⟩:∃ a' c,v=.slice a' len c:=by
  obtain ⟨_,_,_,_,_,_,_,k1,_,_,_,_,hA,_⟩:=hh;obtain ⟨a',c,h⟩:=hA.shape;exact ⟨a',c,by simpa [hyl] using h⟩
 exact ⟨v,w',_,⟨a',c,hv,rfl⟩,hrun,hh⟩
theorem DoesE.appendO {α:Type} {T:Rp α} {by_:Nat} {z:List Value} {v u:Value} {xs ys:List α} (ht:P.underlying t=some (.slice e)) (he:elemIs P e T.k by_ z) (hk:0<T.k) (hx:ev σ x=some v) (hy:ev σ y=some u)
  (hl:Sel η (OwnP T e u ys) θ) (hs:Sel θ (OwnP T e v xs) ζ) (hb:(xs.length+ys.length)*by_≤140737488355328) (h63:xs.length+ys.length≤9223372036854775807) :
  DoesE P (.call ⟨.builtin .append,#[x,y],#[t,t]⟩) σ g η fun v' η' =>∃ a c,v' =.slice a (xs.length+ys.length) c∧η' =OwnP T e v' (xs++ys)::ζ:=by
 intro o ρ w h1 h2 h3
 obtain ⟨p1,p2,p3,K,hdd,s1,s2,k1,k2,kd,t1,t2,⟨css,ha,hown⟩,hr⟩:=h3.sel hl;have hw' :Holds w g (Own u T.k e ys.length css.flatten::θ):=⟨p1,p2,p3,K,hdd,s1,s2,k1,k2,kd,t1,t2,hown,hr⟩;exact DoesE.appendL (g:=g) ht he hk hx hy .here hs rfl rfl ha hb h63 o ρ w h1 h2 hw'
theorem ownP_nil {α:Type} {T:Rp α}:∀ h,OwnP T e (.slice none 0 0) ([]:List α) h:=fun _=>⟨[],trivial,by simp,.inl ⟨rfl,rfl⟩⟩
theorem S.addNil {α:Type} {T:Rp α} (h:S ro P fn n R todo σ D g (OwnP T e (.slice none 0 0) ([]:List α)::η)):S ro P fn n R todo σ D g η :=
 S.imp (η' :=OwnP T e (.slice none 0 0) ([]:List α)::η) (fun m hm=>⟨Fr.emp,m,Fr.emp_disj _,Fr.emp_sub _,Fr.sub_refl _,ownP_nil _,hm⟩) h
end
end Go.Sp
end
end
section
/- Texts of this proof, one behind the other. -/
section
/- Texts of this proof. -/
namespace Go.Sp
section
variable {ro:Option Nat} {P:Program} {σ σ' :List (Nat × Value)} {g:Gr} {η η' ζ θ:List SProp} {t e:TypeId} {x y:Operand}
theorem Does.sliceNil {k:Nat} {kh:IntKind} {m:Nat} (ht:P.underlying t=some (.slice e)) (he:(P.info? e).map (·.size)=some k) (hx:ev σ x=some (.slice none 0 0)) (hy:ev σ y=some (.int kh (m:Int))) (hm:m=0) :
  Does P (.slice t x none (some y) none) σ g η (.slice none 0 0) η:=by
 subst hm;exact .run fun o ρ w ho hk=>by simp [execOp,ho,hk x _ hx,hk y _ hy,Instr.sliceAt,run_underlying ht,Instr.slice,Instr.sliceBounds,Instr.sliceBound,asIntOf,run_sizeOf he]
theorem DoesE.appendZ0 {α:Type} {T:Rp α} {by_:Nat} {z:List Value} {a:α} {m:Nat} {t2:TypeId} {ki kj:IntKind} (ht:P.underlying t=some (.slice e)) (ht2:P.underlying t2=some (.int ki)) (he:elemIs P e T.k by_ z) (hk:0<T.k) (hz:T.rel Fr.emp z a)
  (hx:ev σ x=some (.slice none 0 0)) {zi:Int} (hy:ev σ y=some (.int kj zi)) (hzi:zi=(m:Int)) (hb:m*by_≤140737488355328) (h63:m≤9223372036854775807) (h0:0<m) :
  DoesE P (.call ⟨.builtin .append,#[x,y],#[t,t2]⟩) σ g η fun v' η' =>∃ a' c,v' =.slice a' m c∧η' =OwnP T e v' (List.replicate m a)::η:=by
 subst hzi
 intro o ρ w ho hkn hw
 obtain ⟨i,zv,hi,hzz,hsz,hby,hzc,hzl⟩:=he;subst hby hzc;have hzs:zv.cells.size=T.k:=by simpa using hzl
 have wl:IntKind.i64.wrap (m:Int)=m:=by rw [IntKind.wrap_i64];omega
 have n1:¬ ((m:Int)<0):=by omega
 have n2:¬ (281474976710656<(m:Int)*(i.bytes:Int)):=by
  have:((m*i.bytes:Nat):Int)≤140737488355328:=by omega
  rw [Int.natCast_mul] at this;omega
 have n3:m≠0:=by omega
 have n4:¬ (9223372036854775807<(m:Int)):=by omega
 have n5:¬ (281474976710656<Builtin.nextslicecap m 0*i.bytes):=by rw [nextslicecap_zero h0];omega
 have n6:m*i.size≠0:=by rw [hsz];exact Nat.ne_of_gt (Nat.mul_pos h0 hk)
 have hge:=grownCap_ge w m 0 e;have hcm:=grownCap_le_maxLen w m 0 e (by simpa [maxLen] using h63);have hrun:(Builtin.append_ #[t,t2] o.type #[.slice none 0 0,.int kj (m:Int)]).run P w=.ok (.slice (some ⟨w.heap.size,0,none⟩) m (grownCap w m 0 e)) (w.drew.alloc (.cells (Builtin.zeroCells zv.cells m++Builtin.zeroCells zv.cells (grownCap w m 0 e - m)) e)):=by
  simp [Builtin.append_,run_underlying ht,run_underlying ht2,sizeOf,typeInfo,zeroValue,hi,hzz,asInt,asIntOf,wl,n1,n2,n3,n4,n5,n6,Question.forced,Builtin.firstCells,newRow,grownCap]
 obtain ⟨css,q1,q2⟩:=reps_flat hz m;have hzr:∀ q,(Builtin.zeroCells zv.cells q).toList=reps zv.cells.toList q:=fun q=>by
  have:=madeCells_reps zv.cells q (by omega);rw [← this];rfl
 refine ⟨_,_,_,⟨_,_,rfl,rfl⟩,run_append_args ho (by rw [hkn x _ hx,hkn y _ hy];exact hrun),?_⟩;refine (((hw.drewN _ (Nat.le_add_right _ _)).alloc _).own (k:=T.k) (m:=m) (cap:=grownCap w m 0 e) (cs:=css.flatten) hge (by simpa [maxLen] using hcm) ?_ ?_).imp fun _=>Sat.cons_imp (OwnP.of q1 (by simp) rfl rfl) fun _ q=>q
 ·simp only [Array.size_append,size_zeroCells,hzs,← Nat.add_mul]
  congr 1;omega
 ·rw [Array.toList_append,hzr,q2,List.take_append]
  rw [List.take_of_length_le (by rw [length_reps];simp [hzs]),length_reps]
  simp [hzs]
theorem DoesE.cutOwn {α:Type} {T:Rp α} {v:Value} {xs:List α} {m:Nat} {kh:IntKind} {zi:Int} (ht:P.underlying t=some (.slice e)) (he:(P.info? e).map (·.size)=some T.k) (hx:ev σ x=some v) (hy:ev σ y=some (.int kh zi)) (hzi:zi=(m:Int))
  (hs:Sel η (OwnP T e v xs) ζ) (hm:m≤xs.length):DoesE P (.slice t x none (some y) none) σ g η fun v' η' =>∃ a c,v' =.slice a m c∧η' =OwnP T e v' (xs.take m)::ζ:=by
 subst hzi
 intro o ρ w ho hk hw
 obtain ⟨p1,p2,p3,K,hdd,s1,s2,k1,k2,kd,t1,t2,⟨css,ha,hl,hA⟩,hr⟩:=hw.sel hs;have hml:m*T.k≤xs.length*T.k:=Nat.mul_le_mul_right _ hm;have hmin:min m xs.length=m:=Nat.min_eq_left hm
 rcases hA with ⟨rfl,h0⟩|⟨b,cap,cur,rfl,hb,h1,h2,h3,h4⟩
 ·have hm0:m=0:=by omega
  subst hm0;refine ⟨.slice none 0 0,w,_,⟨none,0,rfl,rfl⟩,?_,p1,p2,p3,K,hdd,s1,s2,k1,k2,kd,t1,t2,⟨[],trivial,by simp,.inl ⟨rfl,by simp⟩⟩,hr⟩
  simp [execOp,ho,hk x _ hx,hk y _ hy,Instr.sliceAt,run_underlying ht,Instr.slice,Instr.sliceBounds,Instr.sliceBound,asIntOf,run_sizeOf he]
 ·have hmc:m≤cap:=by omega
  refine ⟨.slice (some ⟨b,0,none⟩) m cap,w,_,⟨_,_,rfl,rfl⟩,?_,p1,p2,p3,K,hdd,s1,s2,k1,k2,kd,t1,t2,⟨css.take m,ha.take m,?_,.inr ⟨b,cap,cur,?_,hb,?_,h2,h3,?_⟩⟩,hr⟩
  ·have e1:(⟨b,0,none⟩:Addr).add 0=⟨b,0,none⟩:=rfl
   simp [execOp,ho,hk x _ hx,hk y _ hy,Instr.sliceAt,run_underlying ht,Instr.slice,Instr.sliceBounds,Instr.sliceBound,asIntOf,run_sizeOf he,hmc,e1]
  ·rw [← ha.flat_take,List.length_take,hl,List.length_take,hmin];exact Nat.min_eq_left hml
  ·rw [List.length_take,hmin]
  ·rw [List.length_take,hmin];exact hmc
  ·rw [List.length_take,hmin,← ha.flat_take,← h4,List.take_take,Nat.min_eq_left hml]
end
theorem Sat.tail' {A:SProp} {η:List SProp} {m:Fr}:Sat (A::η) m→Sat η m:=fun ⟨_,_,_,_,s,_,y⟩=>Sat.mono s y
theorem obj_at {b:Nat} {T:TypeId} {cs:List Value} {m:Fr} (h:obj b T cs m):At m ⟨b,0,none⟩ cs:=fun j hj=>by
 rw [add_lit];have:m b=some (.cells cs.toArray T (0,0)):=h
 simp [Fr.cell,this,hj]
theorem obj_atR {b:Nat} {T:TypeId} {cs:List Value} {h m:Fr} (x:obj b T cs m) (hd:h.disj m):At (h.add m) ⟨b,0,none⟩ cs:=(obj_at x).mono (Fr.sub_add_right hd)
theorem At.left {h m:Fr} {p:Addr} {cs:List Value} (x:At h p cs):At (h.add m) p cs:=x.mono (Fr.sub_add_left _ _)
theorem Holds.melt {w:World} {g:Gr} {η:List SProp} {k:Fr} (h:Holds w (g.add k) η) (hd:g.h.disj k):Holds w g η:=(h.thaw (A:=fun _=>True) trivial hd).drop
inductive Picks:List SProp→List SProp→Prop
 |all {η:List SProp}:Picks η η
 |nil {η:List SProp}:Picks η []
 |cons {η ζ bs:List SProp} {A:SProp} (h:Sel η A ζ) (h2:Picks ζ bs):Picks η (A::bs)
 |skip {η bs:List SProp} {A:SProp} (h:Picks η bs):Picks (A::η) bs
theorem Sat.picks {η bs:List SProp} (p:Picks η bs):∀ {h:Fr},Sat η h→Sat bs h:=by
 induction p with
 |all=>exact fun x=>x
 |nil=>exact fun _=>trivial
 |cons s p ih=>exact fun x=>Sat.cons_imp (fun _ y=>y) (fun _=>ih) (Sat.perm s.perm x)
 |skip p ih=>exact fun x=>ih x.tail'
theorem Holds.picks {w:World} {g:Gr} {η bs:List SProp} (h:Holds w g η) (p:Picks η bs):Holds w g bs:=h.imp fun _=>Sat.picks p
theorem Holds.end_ {w:World} {g:Gr} {η:List SProp} {Post:Ending→List SProp→Prop} {R:Ending→World→Prop} {e:Ending} (hR:∀ e η' w',Post e η' →Holds w' g η' →R e w') (hw:Holds w g η) (h:∃ η',Post e η' ∧Picks η η'):R e w :=
 let ⟨_,p,q⟩:=h;hR _ _ w p (hw.picks q)
theorem Holds.fst {w:World} {g:Gr} {A:SProp} {η:List SProp} (h:Holds w g (A::η)):Holds w g [A]:=h.imp fun _=>Sat.cons_imp (fun _ x=>x) fun _ _=>trivial
theorem Holds.fst2 {w:World} {g:Gr} {A B:SProp} {η:List SProp} (h:Holds w g (A::B::η)):Holds w g [A,B]:=h.imp fun _=>Sat.cons_imp (fun _ x=>x) fun _=>Sat.cons_imp (fun _ x=>x) fun _ _=>trivial
theorem Sat.arr {α:Type} {T:Rp α} {e:TypeId} {v:Value} {xs:List α} {η:List SProp} {m:Fr}:Sat (OwnP T e v xs::η) m→Arr T m v xs
 |⟨_,_,_,s,_,x,_⟩=>(OwnP.arr x).mono s
theorem Sat.tail {A:SProp} {η:List SProp} {m:Fr}:Sat (A::η) m→Sat η m
 |⟨_,_,_,_,s,_,y⟩=>y.mono s
theorem Arr.left {α:Type} {T:Rp α} {v:Value} {xs:List α} {h m:Fr} (x:Arr T h v xs):Arr T (h.add m) v xs:=x.mono (Fr.sub_add_left _ _)
theorem Arr.right {α:Type} {T:Rp α} {v:Value} {xs:List α} {h m:Fr} (x:Arr T m v xs) (hd:h.disj m):Arr T (h.add m) v xs:=x.mono (Fr.sub_add_right hd)
theorem melted {g g' :Gr} {Post:Ending→List SProp→Prop} {R:Ending→World→Prop} (hR:∀ e η' w',Post e η' →Holds w' g η' →R e w') (hm:∀ w ζ,Holds w g' ζ→Holds w g ζ) :
  ∀ e η' w',Post e η' →Holds w' g' η' →R e w' :=fun e η' w' p h=>hR e η' w' p (hm w' η' h)
theorem meltTrans {g g' g'' :Gr} (h1:∀ w ζ,Holds w g' ζ→Holds w g ζ) (h2:∀ w ζ,Holds w g'' ζ→Holds w g' ζ):∀ w ζ,Holds w g'' ζ→Holds w g ζ:=fun w ζ h=>h1 w ζ (h2 w ζ h)
theorem meltRefl {g:Gr}:∀ w ζ,Holds w g ζ→Holds w g ζ:=fun _ _ h=>h
section
variable {ro:Option Nat} {P:Program} {fn:Func} {n:Nat} {R:Ending→World→Prop} {k:List Item} {σ:List (Nat × Value)} {D:List Deferred} {g:Gr} {η ζ:List SProp} {ops:Array Oper} {L:List Nat}
theorem S.melt {g' :Gr} {todo:List Item} (hm:∀ w ζ,Holds w g' ζ→Holds w g ζ) (h:S ro P fn n R todo σ D g η):S ro P fn n R todo σ D g' η:=fun a w hf hd hw=>h a w hf hd (hm _ _ hw)
theorem S.pk {todo:List Item} (p:Picks η ζ) (h:S ro P fn n R todo σ D g ζ):S ro P fn n R todo σ D g η:=fun a w hf hd hw=>h a w hf hd (hw.picks p)
theorem S.frz {todo:List Item} {A:SProp} (s:Sel η A ζ) (h:∀ g' :Gr,g.h.sub g'.h→(∀ w ζ,Holds w g' ζ→Holds w g ζ)→(∃ m:Fr,A m∧m.sub g'.h)→S ro P fn n R todo σ D g' ζ):S ro P fn n R todo σ D g η :=
 S.sel s (S.freeze fun m hm hd=>h (g.add m) (Fr.sub_add_left _ _) (fun _ _ x=>x.melt hd) ⟨m,hm,Fr.sub_add_right hd⟩)
theorem O.frz {A:SProp} (s:Sel η A ζ) (h:∀ g' :Gr,g.h.sub g'.h→(∀ w ζ,Holds w g' ζ→Holds w g ζ)→(∃ m:Fr,A m∧m.sub g'.h)→O ro P fn n R ops L k σ D g' ζ):O ro P fn n R ops L k σ D g η :=
 O.sel s (O.freeze fun m hm hd=>h (g.add m) (Fr.sub_add_left _ _) (fun _ _ x=>x.melt hd) ⟨m,hm,Fr.sub_add_right hd⟩)
theorem S.frzA {todo:List Item} {α:Type} {T:Rp α} {e:TypeId} {v:Value} {xs:List α} (s:Sel η (OwnP T e v xs) ζ) (h:∀ g' :Gr,g.h.sub g'.h→(∀ w ζ,Holds w g' ζ→Holds w g ζ)→Arr T g'.h v xs→S ro P fn n R todo σ D g' ζ):S ro P fn n R todo σ D g η :=
 S.frz s fun g' h1 h2 ⟨_,h3,h4⟩=>h g' h1 h2 (h3.arr.mono h4)
theorem O.frzA {α:Type} {T:Rp α} {e:TypeId} {v:Value} {xs:List α} (s:Sel η (OwnP T e v xs) ζ) (h:∀ g' :Gr,g.h.sub g'.h→(∀ w ζ,Holds w g' ζ→Holds w g ζ)→Arr T g'.h v xs→O ro P fn n R ops L k σ D g' ζ):O ro P fn n R ops L k σ D g η :=
 O.frz s fun g' h1 h2 ⟨_,h3,h4⟩=>h g' h1 h2 (h3.arr.mono h4)
theorem O.frzW {α:Type} {T:Rp α} {v:Value} {xs:List α} (s:Sel η (fun m=>Arr T m v xs) ζ) (h:∀ g' :Gr,g.h.sub g'.h→(∀ w ζ,Holds w g' ζ→Holds w g ζ)→Arr T g'.h v xs→O ro P fn n R ops L k σ D g' ζ):O ro P fn n R ops L k σ D g η :=
 O.frz s fun g' h1 h2 ⟨_,h3,h4⟩=>h g' h1 h2 (h3.mono h4)
theorem S.frzO {todo:List Item} {b:Nat} {T:TypeId} {cs:List Value} (s:Sel η (obj b T cs) ζ) (h:∀ g' :Gr,g.h.sub g'.h→(∀ w ζ,Holds w g' ζ→Holds w g ζ)→At g'.h ⟨b,0,none⟩ cs→S ro P fn n R todo σ D g' ζ):S ro P fn n R todo σ D g η :=
 S.frz s fun g' h1 h2 ⟨_,h3,h4⟩=>h g' h1 h2 ((obj_at h3).mono h4)
theorem O.frzO {b:Nat} {T:TypeId} {cs:List Value} (s:Sel η (obj b T cs) ζ) (h:∀ g' :Gr,g.h.sub g'.h→(∀ w ζ,Holds w g' ζ→Holds w g ζ)→At g'.h ⟨b,0,none⟩ cs→O ro P fn n R ops L k σ D g' ζ):O ro P fn n R ops L k σ D g η :=
 O.frz s fun g' h1 h2 ⟨_,h3,h4⟩=>h g' h1 h2 ((obj_at h3).mono h4)
end
theorem zpa {η:List SProp}:Picks η η:=.all
theorem zpn {η:List SProp}:Picks η []:=.nil
theorem zpc {η ζ θ:List SProp} {A:SProp} (h:Sel η A ζ) (k:Picks ζ θ):Picks η (A::θ):=.cons h k
theorem zps {A:SProp} {η θ:List SProp} (k:Picks η θ):Picks (A::η) θ:=.skip k
end Go.Sp
end
section
/- Texts of this proof. -/
namespace Go.Sp
theorem leaves_going {P:Program} {fn:Func} {tmps:Array Value} {R:Ending→World→Prop}:∀ (ds:List Deferred) (u:FrameMode) (w:World) (fr:Frame)
  (cs:List Frame),fr.mode=u→fr.defers=ds→fr.tmps=tmps→P.funcs[fr.fn]?=some fn→fr.kind=.deferred→Lv P fn tmps R ds u w →
  ∃ e w' fr',R e w' ∧Comes P (lone fr cs w) (lone fr' cs w') e∧fr'.kind=.deferred∧fr'.going P w' e:=by
 intro ds
 induction ds with
 |nil =>
  intro u w fr cs hu hd ht hf hk h
  cases u with
  |run=>exact h.elim
  |returning =>
   obtain ⟨v,hr,hR⟩:=h;exact ⟨.returned v,w,fr,hR,Steps.refl P _,hk,hu,hd,fn,hf,ht ▸ hr⟩
  |panicking chain=>exact ⟨.panicked chain,w,fr,h,Steps.refl P _,hk,hu,hd,fn,hf⟩
 |cons d ds ih =>
  intro u w fr cs hu hd ht hf hk h
  obtain ⟨hrun,h⟩:=h
  rcases h with ⟨r,w',htar,htake,hrest⟩|⟨fv,cap,f,args,htar,hinv,hcall⟩
  ·have h1:=step_collected (cs:=cs) (hu ▸ hrun) hd htar htake
   obtain ⟨e',w'',fr',hR',hs',hfn',hl'⟩:=ih u w' { fr with defers:=[]++ds } cs hu rfl ht hf hk hrest;exact ⟨e',w'',fr',hR',Comes.of_steps (.one h1) hs',hfn',hl'⟩
  have h1:=step_defer (cs:=cs) (hu ▸ hrun) hd htar hinv;obtain ⟨e,u',w',frX,hR,hsteps,hkX,hgo⟩:=hcall { fr with defers:=ds } cs hu
  cases e with
  |returned v =>
   have h2:=step_going_returned (c:={ { fr with defers:=ds } with mode:=u' }) (cs:=cs) hkX hgo;obtain ⟨e',w'',fr',hR',hs',hfn',hl'⟩:=ih (settle u') w' { { { fr with defers:=ds } with mode:=u' } with mode:=settle u' } cs rfl rfl ht hf hk hR;exact ⟨e',w'',fr',hR',Comes.of_steps (.head h1 (Steps.trans hsteps (.one h2))) hs',hfn',hl'⟩
  |panicked chain =>
   have h2:=step_going_panicked (c:={ { fr with defers:=ds } with mode:=u' }) (cs:=cs) hgo;obtain ⟨e',w'',fr',hR',hs',hfn',hl'⟩:=ih (raised u' chain) w' { { { fr with defers:=ds } with mode:=u' } with mode:=raised u' chain } cs rfl rfl ht hf hk hR;exact ⟨e',w'',fr',hR',Comes.of_steps (.head h1 (Steps.trans hsteps (.one h2))) hs',hfn',hl'⟩
  |outgrown=>exact ⟨.outgrown,w',fr,hR,Outgrown.of_steps (.one h1) hsteps,hk,trivial⟩
def recVal:FrameMode→Value
 |.panicking ({ v,recovered:=false,goexit:=false }::_)=>v
 |_=>.nilIface
def recMode:FrameMode→FrameMode
 |.panicking ({ v,recovered:=false,goexit:=false }::older)=>.panicking ({ v,recovered:=true }::older)
 |u=>u
def recOps (ops:Array Oper) (n:Nat):Option (Nat × Nat) :=
 match (ops[0]?:Option Oper),(ops[1]?:Option Oper),(ops[2]?:Option Oper) with
 |some ⟨some d,.call ⟨.builtin .recover,_,_⟩,_,_,_,none⟩,some ⟨some e,.assign (.tmp d'),_,_,_,none⟩,none =>
  match Nat.beq d d',Nat.blt d n,Nat.blt e n with|true,true,true=>some (d,e)|_,_,_=>none
 |_,_,_=>none
theorem recoverD_mode (c:Frame) (cs:List Frame):recoverD (c::cs)=none∧recVal c.mode=.nilIface∧recMode c.mode=c.mode∨recoverD (c::cs)=some (recVal c.mode,{ c with mode:=recMode c.mode }::cs):=by
 obtain ⟨fn,tmps,todo,defers,mode,kind,ro⟩:=c;unfold recoverD recVal recMode
 cases mode with
 |run=>left;simp
 |returning=>left;simp
 |panicking ch =>
  cases ch with
  |nil=>left;simp
  |cons p older =>
   obtain ⟨v,r,ge⟩:=p
   cases r<;>cases ge<;>simp
theorem callsD_rec {P:Program} {f:FuncId} {fn:Func} {id:Nat} {ops:Array Oper} {rest:Code} {args:Array Value} {u:FrameMode} {w:World} {R:Ending→World→Prop} {n d e:Nat} (vs:List Value) (ha:args=vs.toArray)
  (hf:P.funcs[f]?=some fn) (hb:fn.body=some (.seq (.region id ops false) rest)) (hn:fn.ntmps=n) (hle:Nat.ble vs.length n=true) (hrec:recOps ops n=some (d,e))
  {g:Gr} {η:List SProp} (hw:Holds w g η)
  (h:S none P fn n R [.code rest] ((e,recVal u)::(d,recVal u)::slots vs 0) [] g η) :
  CallsD P f args u w fun e' u' w' =>u' =recMode u∧R e' w' :=by
 intro c cs hcu
 let b:Frame:={ (default:Frame) with fn:=f,kind:=.deferred }
 subst ha hn
 let a₀:Act:={ tmps:=vs.toArray++Array.replicate (fn.ntmps - vs.toArray.size) undef,defers:=[] }
 have henter:Frame.enter P f vs.toArray .deferred=b.at a₀ [.code (.seq (.region id ops false) rest)]:=by
  simp [Frame.enter,Frame.at,hf,hb,b,a₀]
 have hfit:Fits a₀ fn.ntmps (slots vs 0):=by
  refine ⟨?_,?_⟩
  ·have:vs.length≤fn.ntmps:=Nat.le_of_ble_eq_true hle
   simp [a₀];omega
  ·intro t v hl
   obtain ⟨_,h2⟩:=look_slots vs 0 t v hl;simp only [Nat.sub_zero] at h2;have:t<vs.length:=by
    rcases Nat.lt_or_ge t vs.length with q|q
    ·exact q
    ·rw [List.getElem?_eq_none q] at h2;cases h2
   simp only [a₀];rw [Array.getElem?_append_left (by simpa using this)]
   simpa using h2
 unfold recOps at hrec
 split at hrec
 case h_2=>cases hrec
 rename_i d1 xs1 tt1 ty1 pos1 af1 e1 d1' ty2 pos2 af2 ho0 ho1 ho2
 split at hrec
 case h_2=>cases hrec
 rename_i hq1 hq2 hq3
 cases hrec
 have:=Nat.eq_of_beq_eq_true hq1;subst this;have hsz:ops.size=2:=by
  have h1:=(Array.getElem?_eq_some_iff.1 ho1).1;have h2:=Array.getElem?_eq_none_iff.1 ho2
  omega
 let a₁:Act:=a₀.put (some d) (recVal u)
 let a₂:Act:=a₁.put (some e) (recVal u)
 have hf1:Fits a₁ fn.ntmps ((d,recVal u)::slots vs 0):=hfit.put hq2;have hf2:Fits a₂ fn.ntmps ((e,recVal u)::(d,recVal u)::slots vs 0):=hf1.put hq3;have hops:wpOpsS P ops (fun x a' cs' w' =>x=.normal∧a' =a₂∧cs' ={ c with mode:=recMode u }::cs∧w' =w) [0,1] a₀ (c::cs) w:=by
  have hev:a₁.eval (.tmp d)=recVal u:=hf1.eval (x:=.tmp d) (by simp [ev,look]);have hcm:{ c with mode:=recMode u }=c∨True:=.inr trivial;simp only [wpOpsS,ho0,ho1,Region.wanted,if_true];have hrun0:∀ o:Oper,o.op=.call ⟨.builtin .recover,xs1,tt1⟩→(execOp a₀.eval o).run P w=.ok .recover w:=fun o ho=>by
   simp [execOp,ho,resolve,invoke,builtin]
  rw [hrun0 _ rfl];subst hcu
  rcases recoverD_mode c cs with ⟨q1,q2,q3⟩|q1
  ·simp only [q1]
   have hrun1:∀ o:Oper,o.op=.assign (.tmp d)→(execOp (a₀.put (some d) .nilIface).eval o).run P w=.ok (.value (recVal c.mode)) w:=fun o ho=>by
    rw [← q2];simp [execOp,ho];exact hev
   rw [hrun1 _ rfl];simp only [Oper.upon_value];refine ⟨trivial,?_,?_,trivial⟩
   ·simp only [a₂,a₁,q2]
   ·rw [q3]
  ·simp only [q1]
   have hrun1:∀ o:Oper,o.op=.assign (.tmp d)→(execOp (a₀.put (some d) (recVal c.mode)).eval o).run P w=.ok (.value (recVal c.mode)) w:=fun o ho=>by
    simp [execOp,ho];exact hev
   rw [hrun1 _ rfl];simp only [Oper.upon_value];exact ⟨trivial,rfl,trivial,trivial⟩
 obtain ⟨x,a',cs',w',⟨rfl,rfl,rfl,rfl⟩,harr⟩:=wp_opsS (P:=P) (Q:=fun x a' cs' w' =>x=.normal∧a' =a₂∧cs' ={ c with mode:=recMode u }::cs∧w' =w) [0,1] a₀ (c::cs) w hops b [.code rest] rfl rfl;have hstart:Steps P (lone (Frame.enter P f vs.toArray .deferred) (c::cs) w') (lone (b.at a₂ [.code rest]) ({ c with mode:=recMode u }::cs) w'):=by
  rw [henter];have hr:List.range ops.size=[0,1]:=by rw [hsz];rfl
  exact .head step_seq (.head step_region (by rw [hr];exact harr))
 obtain ⟨x,a',w'',hq,harr2⟩:=h a₂ w' hf2 rfl hw b ({ c with mode:=recMode u }::cs) rfl ⟨fn,hf⟩;have harr2:=(arrivesIn_iff (I:=Machine.fenced P Fence.wide) (fun _ _=>stepsIn_wide) rfl).1 harr2;rw [Frame.atR_of_none rfl] at harr2
 cases x with
 |normal =>
  obtain ⟨e',w3,fr',hR,hs,hk,hg⟩:=leaves_going a'.defers .returning w'' { b.at a' [] with mode:=.returning } ({ c with mode:=recMode u }::cs) rfl rfl rfl hf rfl hq;exact ⟨e',recMode u,w3,fr',⟨rfl,hR⟩,Comes.of_steps (hstart.trans (Steps.trans harr2 (.one step_end))) hs,hk,hg⟩
 |ret =>
  obtain ⟨todo,hs₀⟩:=harr2;obtain ⟨e',w3,fr',hR,hs,hk,hg⟩:=leaves_going a'.defers .returning w'' { b.at a' todo with mode:=.returning } ({ c with mode:=recMode u }::cs) rfl rfl rfl hf rfl hq;exact ⟨e',recMode u,w3,fr',⟨rfl,hR⟩,Comes.of_steps (hstart.trans hs₀) hs,hk,hg⟩
 |panic chain =>
  obtain ⟨todo,hs₀⟩:=harr2;obtain ⟨e',w3,fr',hR,hs,hk,hg⟩:=leaves_going a'.defers (.panicking chain) w'' { b.at a' todo with mode:=.panicking chain } ({ c with mode:=recMode u }::cs) rfl rfl rfl hf rfl hq;exact ⟨e',recMode u,w3,fr',⟨rfl,hR⟩,Comes.of_steps (hstart.trans hs₀) hs,hk,hg⟩
 |exit _=>exact hq.elim
 |goto _=>exact hq.elim
 |outgrown=>exact ⟨.outgrown,recMode u,w'',b,⟨rfl,hq⟩,Outgrown.of_steps hstart (harr2.resolve_left (by simp [b])),rfl,trivial⟩
section
variable {ro:Option Nat} {P:Program} {fn:Func} {n:Nat} {R:Ending→World→Prop} {k:List Item} {σ:List (Nat × Value)} {D:List Deferred} {g:Gr} {η ζ:List SProp}
 {ops:Array Oper} {i d:Nat} {l:List Nat} {f:FuncId} {x y:Operand} {xs:Array Operand} {ts:Array TypeId} {vals:List Value} {K:Value→List SProp→Prop} {t:TypeId}
theorem O.defer {first cap:Array Value} (ho:opAtU ops i=some (.defer ⟨.value x,xs,ts⟩)) (hx:ev σ x=some (.func (.func f) first cap)) (hv:evs σ xs.toList=some vals) {args:Array Value} (hargs:first++vals.toArray=args)
  (h:O none P fn n R ops l k σ (⟨.fn (.func f) cap,args⟩::D) g η):O none P fn n R ops (i::l) k σ D g η:=by
 intro a w hf hd hw
 obtain ⟨o,hi,hdst,hop,hg⟩:=opAtU_spec ho;simp only [wpOpsIn,hi,Region.wanted,hg,if_true];refine ⟨fun _ _=>trivial,?_⟩;have hm:xs.map a.eval=vals.toArray:=by rw [← evs_spec hf.knows hv,← Array.toList_map]
 have hrun:(execOp a.eval o).run P w=.ok (.defer ⟨.fn (.func f) cap,args⟩) w:=by
  simp [execOp,hop,resolve,hf.eval hx,Deferred.ofValue,hm,hargs]
 show o.uponIn (Wd none) 0 P a _ _ ((o.semAt none a.eval).run P w)
 rw [Oper.semAt_none,hrun,Oper.uponIn_defer,hdst];exact h _ w ⟨hf.1,hf.2⟩ (by simp [Act.put,hd]) hw
def DPost (g:Gr) (b:Nat) (R:Ending→World→Prop) (e:Ending) (u:FrameMode) (w:World):Prop :=
 (∃ v,e=.returned v)∧settle u=.returning∧∃ T v η,Holds w g (obj b T [v]::η)∧R (.returned v) w
theorem leavesCell {a:Act} {w:World} {u:FrameMode} {tt b:Nat} {ty:TypeId} {cap args:Array Value} (hr:fn.results=#[.cell tt ty]) (hty:flat1 P ty=true) (hf:Fits a n σ) (hl:look σ tt=some (.pointer (some ⟨b,0,none⟩)))
  (hu:u≠.run) (hc:callable P f=true) (hcall:CallsD P f (args++cap) u w (DPost g b R)):Lv P fn a.tmps R [⟨.fn (.func f) cap,args⟩] u w:=by
 refine Lv.of (leaves_cons hu (by simp [invoke,run_callFunc hc]) (hcall.mono ?_));rintro e u' w' ⟨⟨v,rfl⟩,hs,T,v',η',hw,hR⟩
 show Leaves P fn a.tmps R [] (settle u') w'
 rw [hs];refine ⟨v',?_,hR⟩;have hc0:w'.cell? ⟨b,0,none⟩=some v' :=hw.obj_cell (by rfl);have hl' :=hf.2 tt _ hl
 simp [results,hr,Array.getD_eq_getD_getElem?,hl',asAddr,loadVar,run_isAgg_flat (flat1_flat hty),hc0]
theorem S.retL (h:∀ a w,Fits a n σ→a.defers=D→Holds w g η→Lv P fn a.tmps R D .returning w):S none P fn n R (.code .ret::k) σ D g η:=by
 intro a w hf hd hw
 refine .ret ?_
 show Lv P fn a.tmps R a.defers .returning w
 rw [hd];exact h a w hf hd hw
theorem S.retCell {tt b:Nat} {ty T:TypeId} {v:Value} (hr:fn.results=#[.cell tt ty]) (hty:flat1 P ty=true) (hl:look σ tt=some (.pointer (some ⟨b,0,none⟩))) (hs:Sel η (obj b T [v]) ζ)
  (h:∀ w,Holds w g (obj b T [v]::ζ)→R (.returned v) w):S none P fn n R (.code .ret::k) σ [] g η:=by
 refine S.retL fun a w hf hd hw=>?_;have hw' :=hw.sel hs;refine ⟨v,?_,h w hw'⟩;have hc0:w.cell? ⟨b,0,none⟩=some v:=hw'.obj_cell (by rfl);have hl' :=hf.2 tt _ hl
 simp [results,hr,Array.getD_eq_getD_getElem?,hl',asAddr,loadVar,run_isAgg_flat (flat1_flat hty),hc0]
theorem O.callPD {first cap:Array Value} {X:List PanicEntry→List SProp→Prop} (ho:Fires ops i n σ d (.call ⟨.value x,xs,ts⟩)) (hx:ev σ x=some (.func (.func f) first cap)) (hc:callable P f=true)
  (hv:evs σ xs.toList=some vals) {args:Array Value} (hargs:first++vals.toArray++cap=args) (con:Con P f args g.h η (RetP K X))
  (hp:∀ a ch η' w,Fits a n σ→X ch η' →Holds w g (η' ++ζ)→Lv P fn a.tmps R D (.panicking ch) w)
  (h:∀ v η',K v η' →O none P fn n R ops l k ((d,v)::σ) D g (η' ++ζ)):O none P fn n R ops (i::l) k σ D g (η++ζ):=by
 intro a w hf hd hw
 obtain ⟨o,hi,hdst,hop,hg,hb⟩:=ho.spec;have hm:xs.map a.eval=vals.toArray:=by rw [← evs_spec hf.knows hv,← Array.toList_map]
 refine O.fire hi (hg a hf) (by rw [hop];intro c hc;cases hc) (run_call hop (hf.knows x _ hx) hc w) ?_;rw [Oper.uponIn_enter,hm,hargs];refine calls_wd ?_;refine (con.frame (ζ:=ζ) g (Fr.sub_refl _) w hw).mono fun e w' hh=>?_;obtain ⟨η',⟨η₁,hq,rfl⟩,hw'⟩:=hh
 cases e with
 |returned v =>
  show wpOpsIn (Wd none) 0 P ops _ l (a.put o.dst v) w'
  rw [hdst];exact h v η₁ hq _ _ (hf.put hb) hd hw'
 |panicked ch =>
  show Lv P fn a.tmps R a.defers (.panicking ch) w'
  rw [hd];exact hp a ch η₁ w' hf hq hw'
 |outgrown=>exact hq.elim
theorem O.callPS {first cap:Array Value} {X:List PanicEntry→List SProp→Prop} {A:SProp} (ho:Fires ops i n σ d (.call ⟨.value x,xs,ts⟩)) (hx:ev σ x=some (.func (.func f) first cap)) (hc:callable P f=true)
  (hv:evs σ xs.toList=some vals) {args:Array Value} (hargs:first++vals.toArray++cap=args) (hs:Sel η A ζ) (con:Con P f args g.h [A] (RetP K X))
  (hp:∀ ch η' w,X ch η' →Holds w g (η' ++ζ)→R (.panicked ch) w)
  (h:∀ v η',K v η' →O ro P fn n R ops l k ((d,v)::σ) [] g (η' ++ζ)):O ro P fn n R ops (i::l) k σ [] g η :=
 fun a w hf hd hw=>O.callP (η:=[A]) (ζ:=ζ) ho hx hc hv hargs con hp h a w hf hd (hw.sel hs)
theorem O.callP0 {first cap:Array Value} {X:List PanicEntry→List SProp→Prop} (ho:Fires ops i n σ d (.call ⟨.value x,xs,ts⟩)) (hx:ev σ x=some (.func (.func f) first cap)) (hc:callable P f=true)
  (hv:evs σ xs.toList=some vals) {args:Array Value} (hargs:first++vals.toArray++cap=args) (con:Con P f args g.h [] (RetP K X))
  (hp:∀ ch η' w,X ch η' →Holds w g (η' ++η)→R (.panicked ch) w)
  (h:∀ v η',K v η' →O ro P fn n R ops l k ((d,v)::σ) [] g (η' ++η)):O ro P fn n R ops (i::l) k σ [] g η :=
 O.callP (η:=[]) (ζ:=η) ho hx hc hv hargs con hp h
theorem O.callPSD {first cap:Array Value} {X:List PanicEntry→List SProp→Prop} {A:SProp} (ho:Fires ops i n σ d (.call ⟨.value x,xs,ts⟩)) (hx:ev σ x=some (.func (.func f) first cap)) (hc:callable P f=true)
  (hv:evs σ xs.toList=some vals) {args:Array Value} (hargs:first++vals.toArray++cap=args) (hs:Sel η A ζ) (con:Con P f args g.h [A] (RetP K X))
  (hp:∀ a ch η' w,Fits a n σ→X ch η' →Holds w g (η' ++ζ)→Lv P fn a.tmps R D (.panicking ch) w)
  (h:∀ v η',K v η' →O none P fn n R ops l k ((d,v)::σ) D g (η' ++ζ)):O none P fn n R ops (i::l) k σ D g η :=
 fun a w hf hd hw=>O.callPD (η:=[A]) (ζ:=ζ) ho hx hc hv hargs con hp h a w hf hd (hw.sel hs)
theorem O.callP0D {first cap:Array Value} {X:List PanicEntry→List SProp→Prop} (ho:Fires ops i n σ d (.call ⟨.value x,xs,ts⟩)) (hx:ev σ x=some (.func (.func f) first cap)) (hc:callable P f=true)
  (hv:evs σ xs.toList=some vals) {args:Array Value} (hargs:first++vals.toArray++cap=args) (con:Con P f args g.h [] (RetP K X))
  (hp:∀ a ch η' w,Fits a n σ→X ch η' →Holds w g (η' ++η)→Lv P fn a.tmps R D (.panicking ch) w)
  (h:∀ v η',K v η' →O none P fn n R ops l k ((d,v)::σ) D g (η' ++η)):O none P fn n R ops (i::l) k σ D g η :=
 O.callPD (η:=[]) (ζ:=η) ho hx hc hv hargs con hp h
theorem OD.callPS {first cap:Array Value} {X:List PanicEntry→List SProp→Prop} {A:SProp} (ho:Fires ops i n σ d (.call ⟨.value x,xs,ts⟩)) (hd:descOk ops [i] l=true) (hx:ev σ x=some (.func (.func f) first cap)) (hc:callable P f=true)
  (hv:evs σ xs.toList=some vals) {args:Array Value} (hargs:first++vals.toArray++cap=args) (hs:Sel η A ζ) (con:Con P f args g.h [A] (RetP K X))
  (hp:∀ ch η' w,X ch η' →Holds w g (η' ++ζ)→R (.panicked ch) w)
  (h:∀ v η',K v η' →OD P fn n R ops k [] g l ((d,v)::σ) (η' ++ζ)):OD P fn n R ops k [] g (i::l) σ η :=
 OD.perm hs.perm (OD.callT (η:=[A]) (ζ:=ζ) ho hd hx hc hv hargs con (fun _ ch η' w hX hW=>hp ch η' w hX hW) h)
theorem OD.callP0 {first cap:Array Value} {X:List PanicEntry→List SProp→Prop} (ho:Fires ops i n σ d (.call ⟨.value x,xs,ts⟩)) (hd:descOk ops [i] l=true) (hx:ev σ x=some (.func (.func f) first cap)) (hc:callable P f=true)
  (hv:evs σ xs.toList=some vals) {args:Array Value} (hargs:first++vals.toArray++cap=args) (con:Con P f args g.h [] (RetP K X))
  (hp:∀ ch η' w,X ch η' →Holds w g (η' ++η)→R (.panicked ch) w)
  (h:∀ v η',K v η' →OD P fn n R ops k [] g l ((d,v)::σ) (η' ++η)):OD P fn n R ops k [] g (i::l) σ η :=
 OD.callT (η:=[]) (ζ:=η) ho hd hx hc hv hargs con (fun _ ch η' w hX hW=>hp ch η' w hX hW) h
theorem run_equal_iface_nil {ms:Array (String × TypeId)} {u:TypeId} {v:Value} (ht:P.underlying t=some (.interface ms)) (w:World):(Op.equal t (.iface u v) .nilIface).run P w=.ok false w:=by
 show (Op.equalIn (9999+1) t (.iface u v) .nilIface).run P w=_
 rw [Op.equalIn];simp [run_underlying ht]
theorem run_equal_nil_iface {ms:Array (String × TypeId)} (ht:P.underlying t=some (.interface ms)) (w:World):(Op.equal t .nilIface .nilIface).run P w=.ok true w:=by
 show (Op.equalIn (9999+1) t .nilIface .nilIface).run P w=_
 rw [Op.equalIn];simp [run_underlying ht]
theorem Does.neqIV {u:TypeId} {ms:Array (String × TypeId)} {v:Value} {tv:TypeId} (ht:P.underlying t=some (.interface ms)) (hx:ev σ x=some (.iface tv v)):Does P (.binOp .neq t x (.const .nilIface) u) σ g η (.bool true) η :=
 .run fun o ρ w ho hk=>by simp [execOp,ho,hk x _ hx,hk (.const .nilIface) _ rfl,eqGuard,Go.binOp,run_equal_iface_nil ht]
theorem Does.neqIN {u:TypeId} {ms:Array (String × TypeId)} (ht:P.underlying t=some (.interface ms)) (hx:ev σ x=some .nilIface):Does P (.binOp .neq t x (.const .nilIface) u) σ g η (.bool false) η :=
 .run fun o ρ w ho hk=>by simp [execOp,ho,hk x _ hx,hk (.const .nilIface) _ rfl,eqGuard,Go.binOp,run_equal_nil_iface ht]
theorem Does.assertYes {ti ta:TypeId} {v:Value} {dd:TypeDesc} (ht:P.underlying ta=some dd) (hx:ev σ x=some (.iface ta v)) (hn:notIface dd=true:=by rfl):Does P (.typeAssert x ti ta true) σ g η (.tuple #[v,.bool true]) η :=
 .run fun o ρ w ho hk=>by
  simp only [execOp,ho,hk x _ hx,Instr.typeAssert,Sem.run_bind,run_underlying ht,Result.andThen_ok]
  cases dd<;>first|(simp;done)|exact Bool.noConfusion hn
end
end Go.Sp
end
end
end
section
/- Texts of this proof, one behind the other. -/
section
/- Texts of this proof. -/
namespace Go.Sp
def EachP {β α:Type} (A:β→α→SProp):List β→List α→SProp
 |[],[]=>fun _=>True
 |b::bs,a::as=>fun h=>Sat [A b a,EachP A bs as] h
 |_,_=>fun _=>False
theorem Sat.two {A B:SProp} {m:Fr}:Sat [A,B] m↔∃ h1 h2:Fr,h1.disj h2∧h1.sub m∧h2.sub m∧A h1∧(∃ h3:Fr,h3.sub h2∧B h3):=by
 constructor
 ·rintro ⟨h1,h2,d,s1,s2,x,k1,k2,_,t1,_,y,_⟩
  exact ⟨h1,h2,d,s1,s2,x,k1,t1,y⟩
 ·rintro ⟨h1,h2,d,s1,s2,x,h3,t,y⟩
  exact ⟨h1,h2,d,s1,s2,x,h3,Fr.emp,Fr.disj_symm (Fr.emp_disj _),t,Fr.emp_sub _,y,trivial⟩
theorem EachP.snoc {β α:Type} {A:β→α→SProp} {b:β} {a:α}:∀ {bs:List β} {as:List α} {m:Fr},Sat [EachP A bs as,A b a] m→∃ h:Fr,h.sub m∧EachP A (bs++[b]) (as++[a]) h
 |[],[],m,h=>⟨m,Fr.sub_refl _,by
  have h2:Sat [A b a] m:=h.tail';exact Sat.append (η:=[A b a]) (ζ:=[EachP A [] []]) (Fr.disj_symm (Fr.emp_disj _)) h2 ⟨Fr.emp,Fr.emp,Fr.emp_disj _,Fr.emp_sub _,Fr.emp_sub _,trivial,trivial⟩ |>Sat.mono (Fr.add_sub (Fr.sub_refl _) (Fr.emp_sub _))⟩
 |[],_::_,_,h=>by obtain ⟨_,_,_,_,_,x,_⟩:=h;exact x.elim
 |_::_,[],_,h=>by obtain ⟨_,_,_,_,_,x,_⟩:=h;exact x.elim
 |b' ::bs,a' ::as,m,h=>by
  obtain ⟨h1,h2,d,s1,s2,x,y⟩:=h;have x' :Sat [A b' a',EachP A bs as] h1:=x;obtain ⟨k1,k2,kd,t1,t2,p,q⟩:=x';have hq:Sat [EachP A bs as,A b a] (k2.add h2):=Sat.append (η:=[EachP A bs as]) (ζ:=[A b a]) (Fr.disj_sub d t2 (Fr.sub_refl _)) q y;obtain ⟨h3,u,z⟩:=EachP.snoc hq;refine ⟨m,Fr.sub_refl _,?_⟩
  show Sat [A b' a',EachP A (bs++[b]) (as++[a])] m
  refine ⟨k1,k2.add h2,Fr.disj_add_right kd (Fr.disj_sub d t1 (Fr.sub_refl _)),Fr.sub_trans t1 s1,Fr.add_sub (Fr.sub_trans t2 s1) s2,p,h3,Fr.emp,Fr.disj_symm (Fr.emp_disj _),u,Fr.emp_sub _,z,trivial⟩
theorem EachP.all2 {β α:Type} {A:β→α→SProp} {R:β→α→Prop} {k:Fr} (hA:∀ b a m,A b a m→m.sub k→R b a):∀ {bs:List β} {as:List α} {m:Fr},EachP A bs as m→m.sub k→All2 R bs as
 |[],[],_,_,_=>trivial
 |[],_::_,_,h,_=>h.elim
 |_::_,[],_,h,_=>h.elim
 |b::bs,a::as,m,h,s=>by
  have h' :Sat [A b a,EachP A bs as] m:=h;obtain ⟨k1,k2,_,t1,t2,p,k3,_,_,u,_,q,_⟩:=h';exact ⟨hA b a k1 p (Fr.sub_trans t1 s),EachP.all2 hA q (Fr.sub_trans u (Fr.sub_trans t2 s))⟩
abbrev RowsP {α:Type} (T:Rp α) (e:TypeId) (vs:List Value) (xss:List (List α)):SProp:=EachP (OwnP T e) vs xss
section
variable {ro:Option Nat} {P:Program} {fn:Func} {n:Nat} {R:Ending→World→Prop} {k:List Item} {σ:List (Nat × Value)} {D:List Deferred} {g:Gr} {η ζ θ:List SProp} {ops:Array Oper} {L:List Nat}
theorem Sat.each {β α:Type} {A:β→α→SProp} {b:β} {a:α} {bs:List β} {as:List α} {m:Fr} (h:Sat (EachP A bs as::A b a::θ) m):Sat (EachP A (bs++[b]) (as++[a])::θ) m:=by
 obtain ⟨h1,h2,d,s1,s2,x,k1,k2,kd,t1,t2,y,z⟩:=h;obtain ⟨h3,u,w⟩:=EachP.snoc (Sat.append (η:=[EachP A bs as]) (ζ:=[A b a]) (Fr.disj_sub d (Fr.sub_refl _) t1) ⟨h1,Fr.emp,Fr.disj_symm (Fr.emp_disj _),Fr.sub_refl _,Fr.emp_sub _,x,trivial⟩ ⟨k1,Fr.emp,Fr.disj_symm (Fr.emp_disj _),Fr.sub_refl _,Fr.emp_sub _,y,trivial⟩);exact ⟨h3,k2,Fr.disj_sub (Fr.disj_add (Fr.disj_sub d (Fr.sub_refl _) t2) kd) u (Fr.sub_refl _),Fr.sub_trans u (Fr.add_sub s1 (Fr.sub_trans t1 s2)),Fr.sub_trans t2 s2,w,z⟩
theorem O.each {β α:Type} {A:β→α→SProp} {b:β} {a:α} {bs:List β} {as:List α} (s1:Sel η (EachP A bs as) ζ) (s2:Sel ζ (A b a) θ) (h:O ro P fn n R ops L k σ D g (EachP A (bs++[b]) (as++[a])::θ)):O ro P fn n R ops L k σ D g η :=
 O.sel s1 (O.imp (η:=EachP A bs as::ζ) (fun _ x=>Sat.each (Sat.cons_imp (fun _ y=>y) (fun _ y=>Sat.perm s2.perm y) x)) h)
theorem S.imp' {todo:List Item} (hs:∀ m,Sat η m→Sat ζ m) (h:S ro P fn n R todo σ D g ζ):S ro P fn n R todo σ D g η:=fun a w hf hd hw=>h a w hf hd (hw.imp hs)
theorem S.each {todo:List Item} {β α:Type} {A:β→α→SProp} {b:β} {a:α} {bs:List β} {as:List α} (s1:Sel η (EachP A bs as) ζ) (s2:Sel ζ (A b a) θ) (h:S ro P fn n R todo σ D g (EachP A (bs++[b]) (as++[a])::θ)):S ro P fn n R todo σ D g η :=
 S.sel s1 (S.imp' (η:=EachP A bs as::ζ) (fun _ x=>Sat.each (Sat.cons_imp (fun _ y=>y) (fun _ y=>Sat.perm s2.perm y) x)) h)
theorem Sat.rows {α:Type} {T:Rp α} {e e' :TypeId} {v:Value} {vs:List Value} {xss:List (List α)} {m:Fr} (h:Sat [OwnP Rp.val e v vs,RowsP T e' vs xss] m):Arr (Rp.slice T) m v xss:=by
 obtain ⟨h1,h2,_,s1,s2,x,h3,_,_,t,_,y,_⟩:=h;exact (x.arr.mono s1).rows (EachP.all2 (fun b a m' z s=>z.arr.mono s) y (Fr.sub_trans t s2))
theorem sat_rows {α:Type} {T:Rp α} {e e' :TypeId} {v:Value} {vs:List Value} {xss:List (List α)} (s1:Sel η (OwnP Rp.val e v vs) ζ) (s2:Sel ζ (RowsP T e' vs xss) θ) (m:Fr) (h:Sat η m):Sat ((fun m=>Arr (Rp.slice T) m v xss)::θ) m:=by
 obtain ⟨h1,h2,d,t1,t2,x,y⟩:=Sat.perm s1.perm h;obtain ⟨k1,k2,kd,u1,u2,p,q⟩:=Sat.perm s2.perm y;refine ⟨h1.add k1,k2,Fr.disj_add (Fr.disj_sub d (Fr.sub_refl _) u2) kd,Fr.add_sub t1 (Fr.sub_trans u1 t2),Fr.sub_trans u2 t2,?_,q⟩;exact Sat.rows (Sat.append (η:=[OwnP Rp.val e v vs]) (ζ:=[RowsP T e' vs xss]) (Fr.disj_sub d (Fr.sub_refl _) u1) ⟨h1,Fr.emp,Fr.disj_symm (Fr.emp_disj _),Fr.sub_refl _,Fr.emp_sub _,x,trivial⟩ ⟨k1,Fr.emp,Fr.disj_symm (Fr.emp_disj _),Fr.sub_refl _,Fr.emp_sub _,p,trivial⟩)
theorem S.retCellAgg {tt b:Nat} {ty T:TypeId} {cs:List Value} (hr:fn.results=#[.cell tt ty]) (hty:∀ w,(isAgg ty).run P w=.ok true w) (hsz:(P.info? ty).map (·.size)=some cs.length) (hl:look σ tt=some (.pointer (some ⟨b,0,none⟩))) (hs:Sel η (obj b T cs) ζ)
  (h:∀ w,Holds w g (obj b T cs::ζ)→R (.returned (.agg cs.toArray)) w):S none P fn n R (.code .ret::k) σ [] g η:=by
 refine S.retL fun a w hf hd hw=>?_;have hw' :=hw.sel hs;refine ⟨.agg cs.toArray,?_,h w hw'⟩;have hc0:=run_loadCells_list (P:=P) w ⟨b,0,none⟩ cs fun j v hj=>by
  rw [add_lit];exact hw'.obj_cell (by simpa using hj)
 have hl' :=hf.2 tt _ hl
 simp [results,hr,Array.getD_eq_getD_getElem?,hl',asAddr,loadVar,hty,run_sizeOf hsz,hc0]
theorem O.frzR {α:Type} {T:Rp α} {e e' :TypeId} {v:Value} {vs:List Value} {xss:List (List α)} (s1:Sel η (OwnP Rp.val e v vs) ζ) (s2:Sel ζ (RowsP T e' vs xss) θ) (h:∀ g' :Gr,g.h.sub g'.h→(∀ w ζ,Holds w g' ζ→Holds w g ζ)→Arr (Rp.slice T) g'.h v xss→O ro P fn n R ops L k σ D g' θ):O ro P fn n R ops L k σ D g η :=
 O.imp (sat_rows s1 s2) (O.frzW Sel.here h)
end
section
variable {ro:Option Nat} {P:Program} {σ:List (Nat × Value)} {g:Gr} {η ζ:List SProp} {fn:Func} {n:Nat} {R:Ending→World→Prop} {k:List Item} {D:List Deferred} {ops:Array Oper} {i d:Nat} {l:List Nat}
 {t e:TypeId} {x y z:Operand} {v:Value} {ka kb:IntKind} {za zb:Int} {a b:Nat} {α:Type} {T:Rp α} {xs:List α} {r:Fr}
theorem Con.lentD {f:FuncId} {args:Array Value} {h:Fr} {bs:List SProp} {Post:Ending→List SProp→Prop} (con:∀ m:Fr,Sat bs m→h.disj m→Con P f args (h.add m) η Post) :
  Con P f args h (η++bs) Post:=fun g hg w hw=>by
 obtain ⟨m,hm,hd,hw'⟩:=Holds.freezeAll (η:=η) (ζ:=bs) hw;have hd' :h.disj m:=Fr.disj_sub hd hg (Fr.sub_refl _);exact (con m hm hd' (g.add m) (Fr.add_sub (Fr.sub_trans hg (Fr.sub_add_left _ _)) (Fr.sub_add_right hd)) w hw').mono fun e w' ⟨η',x,y⟩=>⟨η',x,y.melt hd⟩
theorem O.callSs {f:FuncId} {xs:Array Operand} {ts:Array TypeId} {vals:List Value} {K' :Value→List SProp→Prop} {first cap:Array Value} (ho:Fires ops i n σ d (.call ⟨.value x,xs,ts⟩)) (hx:ev σ x=some (.func (.func f) first cap)) (hc:callable P f=true)
  (hv:evs σ xs.toList=some vals) {args:Array Value} (hargs:first++vals.toArray++cap=args) {bs:List SProp} (hb:Sels η bs ζ) (con:Con P f args g.h bs (Ret K'))
  (h:∀ v η',K' v η' →O ro P fn n R ops l k ((d,v)::σ) D g (η' ++ζ)):O ro P fn n R ops (i::l) k σ D g η :=
 fun a w hf hd hw=>O.call (ζ:=ζ) ho hx hc hv hargs con h a w hf hd (hw.perm hb.perm)
theorem ODg.callSs {f:FuncId} {xs:Array Operand} {ts:Array TypeId} {vals:List Value} {K' :Value→List SProp→Prop} {first cap:Array Value} (ho:Fires ops i n σ d (.call ⟨.value x,xs,ts⟩)) {fl:Bool} (hd:hdOk fl ops i l=true) (hx:ev σ x=some (.func (.func f) first cap)) (hc:callable P f=true)
  (hv:evs σ xs.toList=some vals) {args:Array Value} (hargs:first++vals.toArray++cap=args) {bs:List SProp} (hb:Sels η bs ζ) (con:Con P f args g.h bs (Ret K'))
  (h:∀ v η',K' v η' →OD P fn n R ops k D g l ((d,v)::σ) (η' ++ζ)):ODx P fn n R ops k D g fl (i::l) σ η :=
 ODx.perm hb.perm (ODg.call (ζ:=ζ) ho hd hx hc hv hargs con h)
theorem OD.callSs {f:FuncId} {xs:Array Operand} {ts:Array TypeId} {vals:List Value} {K' :Value→List SProp→Prop} {first cap:Array Value} (ho:Fires ops i n σ d (.call ⟨.value x,xs,ts⟩)) (hd:descOk ops [i] l=true) (hx:ev σ x=some (.func (.func f) first cap)) (hc:callable P f=true) (hv:evs σ xs.toList=some vals) {args:Array Value} (hargs:first++vals.toArray++cap=args) {bs:List SProp} (hb:Sels η bs ζ) (con:Con P f args g.h bs (Ret K')) (h:∀ v η',K' v η' →OD P fn n R ops k D g l ((d,v)::σ) (η' ++ζ)):OD P fn n R ops k D g (i::l) σ η:=ODg.callSs (fl:=false) ho (by simpa [hdOk] using hd) hx hc hv hargs hb con h
theorem OD.sliceTo (ho:Fires ops i n σ d (.slice t x none (some y) none)) (ht:P.underlying t=some (.slice e)) (he:(P.info? e).map (·.size)=some T.k) (hx:ev σ x=some v) (hy:ev σ y=some (.int kb zb)) (hs:Arr T r v xs) (hz:zb=(b:Int)) (hb:b≤xs.length)
  (h:∀ u,Arr T r u (xs.take b)→OD P fn n R ops k D g l ((d,u)::σ) η):OD P fn n R ops k D g (i::l) σ η:=by
 subst hz;obtain ⟨u,h1,h2⟩:=slice_does (g:=g) (a:=0) (b:=b) (kl:=.i64) ht he hx (lo:=none) (hi:=some y) (fun _ h=>nomatch h) (fun _=>rfl) (fun _ h=>by cases h;exact hy) (fun h=>nomatch h) hs (Nat.zero_le _) hb;exact .quiet ho rfl h1 (h u h2)
theorem OD.sliceFrom (ho:Fires ops i n σ d (.slice t x (some y) none none)) (ht:P.underlying t=some (.slice e)) (he:(P.info? e).map (·.size)=some T.k) (hx:ev σ x=some v) (hy:ev σ y=some (.int ka za)) (hs:Arr T r v xs) (hz:za=(a:Int)) (ha:a≤xs.length)
  (h:∀ u,Arr T r u (xs.drop a)→OD P fn n R ops k D g l ((d,u)::σ) η):OD P fn n R ops k D g (i::l) σ η:=by
 subst hz;obtain ⟨u,h1,h2⟩:=slice_does (g:=g) (a:=a) (b:=xs.length) (kh:=.i64) ht he hx (lo:=some y) (hi:=none) (fun _ h=>by cases h;exact hy) (fun h=>nomatch h) (fun _ h=>nomatch h) (fun _=>rfl) hs ha (Nat.le_refl _);exact .quiet ho rfl h1 (h u (by rw [List.take_length] at h2;exact h2))
theorem ODg.storeObj {t T:TypeId} {x y:Operand} {b i:Nat} {cs news:List Value} {v:Value} {j:Nat} (ho:opAtU ops j=some (.store t x y)) {fl:Bool} (hd:hdOk fl ops j l=true) (hsz:(P.info? t).map (·.size)=some news.length) (hx:ev σ x=some (.pointer (some ⟨b,i,none⟩))) (hy:ev σ y=some v)
  (hv:v.cells.toList=news) (h1:news.all (·.oneCell')=true) (hs:Sel η (obj b T cs) ζ) (hl:i+news.length≤cs.length)
  (h:OD P fn n R ops k D g l σ (obj b T (cs.take i++news++cs.drop (i+news.length))::ζ)):ODx P fn n R ops k D g fl (j::l) σ η :=
 ODx.perm hs.perm (ODg.loudU (η:=obj b T cs::ζ) (η' :=obj b T (cs.take i++news++cs.drop (i+news.length))::ζ) ho rfl hd (fun _=>.storeObj hsz hx hy hv h1 Sel.here hl) h)
theorem OD.storeObj {t T:TypeId} {x y:Operand} {b i:Nat} {cs news:List Value} {v:Value} {j:Nat} (ho:opAtU ops j=some (.store t x y)) (hd:descOk ops [j] l=true) (hsz:(P.info? t).map (·.size)=some news.length) (hx:ev σ x=some (.pointer (some ⟨b,i,none⟩))) (hy:ev σ y=some v) (hv:v.cells.toList=news) (h1:news.all (·.oneCell')=true) (hs:Sel η (obj b T cs) ζ) (hl:i+news.length≤cs.length) (h:OD P fn n R ops k D g l σ (obj b T (cs.take i++news++cs.drop (i+news.length))::ζ)):OD P fn n R ops k D g (j::l) σ η:=ODg.storeObj (fl:=false) ho (by simpa [hdOk] using hd) hsz hx hy hv h1 hs hl h
theorem ODg.store1 {t T:TypeId} {x y:Operand} {b i:Nat} {cs:List Value} {v:Value} {j:Nat} (ho:opAtU ops j=some (.store t x y)) {fl:Bool} (hd:hdOk fl ops j l=true) (ht:flat1 P t=true) (hx:ev σ x=some (.pointer (some ⟨b,i,none⟩))) (hy:ev σ y=some v)
  (h1:v.oneCell' =true) (hs:Sel η (obj b T cs) ζ) (hl:i<cs.length)
  (h:OD P fn n R ops k D g l σ (obj b T (cs.set i v)::ζ)):ODx P fn n R ops k D g fl (j::l) σ η :=
 ODx.perm hs.perm (ODg.loudU (η:=obj b T cs::ζ) (η' :=obj b T (cs.set i v)::ζ) ho rfl hd (fun _=>.store1 ht hx hy h1 Sel.here hl) h)
theorem OD.store1 {t T:TypeId} {x y:Operand} {b i:Nat} {cs:List Value} {v:Value} {j:Nat} (ho:opAtU ops j=some (.store t x y)) (hd:descOk ops [j] l=true) (ht:flat1 P t=true) (hx:ev σ x=some (.pointer (some ⟨b,i,none⟩))) (hy:ev σ y=some v) (h1:v.oneCell' =true) (hs:Sel η (obj b T cs) ζ) (hl:i<cs.length) (h:OD P fn n R ops k D g l σ (obj b T (cs.set i v)::ζ)):OD P fn n R ops k D g (j::l) σ η:=ODg.store1 (fl:=false) ho (by simpa [hdOk] using hd) ht hx hy h1 hs hl h
end
end Go.Sp
end
section
/- Texts of this proof, one behind the other. -/
section
/- Texts of this proof, one behind the other. -/
section
/- Texts of this proof, one behind the other. -/
section
/- Texts of this proof, one behind the other. -/
section
/- Texts of this proof. -/
namespace Go.Sp
section
variable {P:Program} {σ:List (Nat × Value)} {g:Gr} {η ζ θ:List SProp}
def Two {α:Type} (T:Rp α) (e:TypeId) (v:Value) (xs:List α) (u:Value) (ys:List α):SProp:=fun h =>
 (∃ a c,v=.slice a xs.length c∧u=.slice a (xs.length+ys.length) c∧OwnP T e u (xs++ys) h)∨Sat [OwnP T e u (xs++ys),OwnP T e v xs] h
theorem OwnP.take {α:Type} {T:Rp α} {e:TypeId} {a:Option Addr} {n m c:Nat} {xs ys:List α} {h:Fr} (hn:n=xs.length) (x:OwnP T e (.slice a m c) (xs++ys) h):OwnP T e (.slice a n c) xs h:=by
 subst hn;obtain ⟨css,h1,h2,h3⟩:=x;have hl:css.length=xs.length+ys.length:=by rw [h1.length];simp
 have ht:=h1.take xs.length;rw [List.take_left'] at ht
 ·refine ⟨css.take xs.length,ht,?_,?_⟩
  ·rw [← h1.flat_take,List.length_take,h2,List.length_append];exact Nat.min_eq_left (Nat.mul_le_mul_right _ (by omega))
  ·rcases h3 with ⟨h4,h5⟩|⟨b,cap,cur,h4,h5,h6,h7,h8,h9⟩
   ·cases h4
    simp at h5
    exact .inl ⟨by rw [h5.1];rfl,by rw [h5.1];rfl⟩
   ·cases h4
    refine .inr ⟨b,c,cur,rfl,h5,?_,h7,h8,?_⟩
    ·rw [List.length_append] at h6;omega
    ·rw [← h1.flat_take,← h9,List.take_take,List.length_append,Nat.min_eq_left (Nat.mul_le_mul_right _ (by omega))]
 ·rfl
end
end Go.Sp
end
section
/- Texts of this proof. -/
namespace Go.Sp
theorem EachP.len {β α:Type} {A:β→α→SProp}:∀ {bs:List β} {as:List α} {h:Fr},EachP A bs as h→bs.length=as.length
 |[],[],_,_=>rfl
 |[],_::_,_,h=>h.elim
 |_::_,[],_,h=>h.elim
 |_::_,_::_,_,h=>by
  have h' :Sat [_,EachP _ _ _] _:=h;obtain ⟨_,_,_,_,_,_,_,_,_,_,_,q,_⟩:=h'
  simp [EachP.len q]
theorem Sat.join2 {A B C:SProp} {θ:List SProp} (hs:∀ m,Sat [A,B] m→C m):∀ {m:Fr},Sat (A::B::θ) m→Sat (C::θ) m:=by
 rintro m ⟨h1,h2,d,s1,s2,x,k1,k2,kd,t1,t2,y,z⟩;refine ⟨h1.add k1,k2,Fr.disj_add (Fr.disj_sub d (Fr.sub_refl _) t2) kd,Fr.add_sub s1 (Fr.sub_trans t1 s2),Fr.sub_trans t2 s2,hs _ ?_,z⟩;have d2:h1.disj k1:=Fr.disj_sub d (Fr.sub_refl _) t1;exact ⟨h1,k1,d2,Fr.sub_add_left _ _,Fr.sub_add_right d2,x,k1,Fr.emp,Fr.disj_symm (Fr.emp_disj _),Fr.sub_refl _,Fr.emp_sub _,y,trivial⟩
section
variable {ro:Option Nat} {P:Program} {fn:Func} {n:Nat} {R:Ending→World→Prop} {k:List Item} {σ:List (Nat × Value)} {D:List Deferred} {g:Gr} {η ζ θ:List SProp} {ops:Array Oper} {L:List Nat} {β α:Type} {A:β→α→SProp} {todo:List Item}
theorem S.conv {B C:SProp} (s:Sel η B ζ) (hc:∀ m,B m→∃ h:Fr,h.sub m∧C h) (h:S ro P fn n R todo σ D g (C::ζ)):S ro P fn n R todo σ D g η :=
 S.sel s (S.imp' (η:=B::ζ) (ζ:=C::ζ) (fun _ ⟨_,h2,d,s1,s2,x,y⟩=>let ⟨h3,u,z⟩:=hc _ x;⟨h3,h2,Fr.disj_sub d u (Fr.sub_refl _),Fr.sub_trans u s1,s2,z,y⟩) h)
theorem S.factS {B:SProp} {p:Prop} (s:Sel η B ζ) (hs:∀ m,B m→p) (h:p→S ro P fn n R todo σ D g η):S ro P fn n R todo σ D g η :=
 fun a w hf hd hw=>by
  obtain ⟨_,_,_,_,_,_,_,_,_,_,_,_,hB,_⟩:=hw.sel s;exact h (hs _ hB) a w hf hd hw
end
end Go.Sp
end
end
section
/- Texts of this proof. -/
namespace Go.Sp
section
variable {P:Program} {σ:List (Nat × Value)} {g:Gr} {η ζ:List SProp} {t e:TypeId} {x:Operand}
theorem run_byteLoop (P:Program) (w:World) (f:Value→ByteArray→Sem (ForInStep ByteArray)) (hf:∀ (b:UInt8) s,f (byteV b) s=.pure (.yield (s.push b))):∀ (xs:List UInt8) (s:ByteArray),
  (forIn (xs.map byteV) s f:Sem ByteArray).run P w=.ok (⟨s.data++xs.toArray⟩) w
 |[],s=>by simp [forIn]
 |b::xs,s=>by
  have:=run_byteLoop P w f hf xs (s.push b);rw [List.map_cons,List.forIn_cons,hf];simp only [Sem.run_bind,Sem.run,Result.andThen_ok];rw [this];simp
theorem Does.toStr {v:Value} {xs:List UInt8} (ht:P.underlying t=some (.slice e)) (he:P.underlying e=some (.int .u8)) {t2:TypeId} (ht2:P.underlying t2=some .string) (hx:ev σ x=some v) (hs:Arr Rp.u8 g.h v xs) :
  Does P (.convert t t2 x) σ g η (.string (str xs)) η :=
 fun o ρ w ho hk hw=>by
  refine ⟨w,?_,hw⟩;obtain ⟨css,ha,a,cap,rfl,h1,h2,h3,h4⟩:=hs
  cases a with
  |none =>
   obtain ⟨rfl,_⟩:=Arr.nil_of (T:=Rp.u8) (xs:=xs) (by decide) ⟨css,ha,none,cap,rfl,h1,h2,h3,h4⟩
   simp [execOp,ho,hk x _ hx,convert,run_underlying ht,run_underlying he,run_underlying ht2,Conv.bytesToString]
   rfl
  |some a =>
   have hcs:css.flatten=xs.map byteV:=by
    clear h1 h2 h3 h4 hx
    induction css generalizing xs with
    |nil=>cases xs with
     |nil=>rfl
     |cons _ _=>exact ha.elim
    |cons c css ih=>cases xs with
     |nil=>exact ha.elim
     |cons b xs=>rw [List.flatten_cons,ih ha.2,show c=[byteV b] from ha.1];rfl
   have hr:=run_loadCells_list (P:=P) w a css.flatten fun j v hj=>by
    obtain ⟨hj',rfl⟩:=List.getElem?_eq_some_iff.1 hj;obtain ⟨p,hp,hc⟩:=h4 j hj'
    cases hp
    exact Fr.cell_mono hw.ground hc
   have hlen:css.flatten.length=xs.length:=by rw [hcs];simp
   rw [hlen] at hr
   simp [execOp,ho,hk x _ hx,convert,run_underlying ht,run_underlying he,run_underlying ht2,Conv.bytesToString,hr]
   rw [hcs,run_byteLoop P w _ (fun b s=>by simp [byteV];rfl)];have e0:(⟨ByteArray.empty.data++xs.toArray⟩:ByteArray)=str xs:=by
    show (⟨#[]++xs.toArray⟩:ByteArray)=_
    simp [str]
   rw [e0];rfl
end
end Go.Sp
end
end
section
/- Texts of this proof. -/
namespace Go.Sp
def u64 (n:Int):Nat:=(n % 18446744073709551616).toNat
def beAt (n:Int) (i:Nat):UInt8:=UInt8.ofNat (u64 n / 256 ^ i)
def be (n:Int):List UInt8:=[beAt n 7,beAt n 6,beAt n 5,beAt n 4,beAt n 3,beAt n 2,beAt n 1,beAt n 0]
@[simp] theorem be_length (n:Int):(be n).length=8:=rfl
theorem be_get (n:Int) (i:Nat) (h:i<8):(be n)[7 - i]?=some (beAt n i):=by
 match i,h with
 |0,_|1,_|2,_|3,_|4,_|5,_|6,_|7,_=>rfl
theorem u64_lt (n:Int):u64 n<18446744073709551616:=by unfold u64;omega
theorem wrap_u64_eq (n:Int):IntKind.u64.wrap n=(u64 n:Int):=by
 have:IntKind.u64.wrap n=n % 18446744073709551616:=by simp [IntKind.wrap,IntKind.bits,IntKind.signed]
 rw [this];unfold u64;omega
theorem wrap_u8_eq (n:Int):IntKind.u8.wrap n=n % 256:=by simp [IntKind.wrap,IntKind.bits,IntKind.signed]
theorem shift_byte (n:Int) (i:Nat) (h:i<8) (z:Int) (hz:z=8*(i:Int)):IntKind.u8.wrap ((IntKind.u64.wrap n).fdiv (2 ^ min z.toNat IntKind.u64.bits))=((beAt n i).toNat:Int):=by
 subst hz;have e1:min (8*(i:Int)).toNat IntKind.u64.bits=8*i:=by simp [IntKind.bits];omega
 rw [e1,wrap_u64_eq,wrap_u8_eq];have e2:((2:Int) ^ (8*i))=((256 ^ i:Nat):Int):=by
  rw [Int.pow_mul,Int.natCast_pow];rfl
 rw [e2];have e3:((u64 n:Nat):Int).fdiv ((256 ^ i:Nat):Int)=((u64 n / 256 ^ i:Nat):Int):=by
  rw [Int.fdiv_eq_ediv_of_nonneg _ (Int.natCast_nonneg _)];rfl
 rw [e3];unfold beAt;have:(UInt8.ofNat (u64 n / 256 ^ i)).toNat=u64 n / 256 ^ i % 256:=by simp
 rw [this];omega
def beVal (xs:List UInt8):Nat:=xs.foldl (fun n c=>n*256+c.toNat) 0
theorem beVal_snoc (xs:List UInt8) (c:UInt8):beVal (xs++[c])=beVal xs*256+c.toNat:=by simp [beVal]
theorem pow256_succ (n:Nat):256 ^ (n+1)=256 ^ n*256:=Nat.pow_succ ..
theorem beVal_take (xs:List UInt8) (i:Nat) (h:i<xs.length):beVal (xs.take (i+1))=beVal (xs.take i)*256+xs[i].toNat:=by
 rw [List.take_succ_eq_append_getElem h,beVal_snoc]
theorem beVal_lt (xs:List UInt8) (i:Nat):beVal (xs.take i)<256 ^ i:=by
 induction i with
 |zero=>simp [beVal]
 |succ i ih =>
  by_cases h:i<xs.length
  ·rw [beVal_take xs i h,pow256_succ]
   have:=xs[i].toNat_lt
   omega
  ·have e:xs.take (i+1)=xs.take i:=by rw [List.take_of_length_le (by omega),List.take_of_length_le (by omega)]
   rw [e,pow256_succ];omega
theorem beVal_lt7 (xs:List UInt8) (i:Nat) (hi:i<8):beVal (xs.take i)<72057594037927936 :=
 Nat.lt_of_lt_of_le (beVal_lt xs i) (Nat.le_trans (Nat.pow_le_pow_right (by decide) (show i≤7 by omega)) (by decide))
theorem or_byte (n:Nat) (c:UInt8) (hn:n<72057594037927936) :
  bitsOf .or .u64 (IntKind.u64.wrap ((n:Int)*2 ^ min (8:Int).toNat IntKind.u64.bits)) (IntKind.u64.wrap (c.toNat:Int))=((n*256+c.toNat:Nat):Int):=by
 have hc:=c.toNat_lt;have e0:((n:Int)*2 ^ min (8:Int).toNat IntKind.u64.bits)=((n*256:Nat):Int):=by simp [IntKind.bits]
 have w:∀ k:Nat,k<18446744073709551616→IntKind.u64.wrap (k:Int)=k:=fun k h=>by rw [wrap_u64_eq];unfold u64;omega
 rw [e0, w _ (by omega), w _ (by omega)];have e1 : (n * 256) ||| c.toNat = n * 256 + c.toNat := by
  have:=Nat.shiftLeft_add_eq_or_of_lt (b:=c.toNat) (i:=8) (by omega) n;rw [Nat.shiftLeft_eq] at this;exact this.symm
 have e2:∀ k:Nat,k<18446744073709551616→(BitVec.ofInt IntKind.u64.bits (k:Int)).toNat=k:=fun k h=>by rw [BitVec.toNat_ofInt];simp only [IntKind.bits];omega
 simp only [bitsOf,BitVec.toNat_or];rw [e2 _ (by omega),e2 _ (by omega),e1,w _ (by omega)]
def s64 (n:Nat):Int:=if n<9223372036854775808 then n else n - 18446744073709551616
theorem wrap_i64_eq (n:Nat) (h:n<18446744073709551616):IntKind.i64.wrap (n:Int)=s64 n:=by
 rw [IntKind.wrap_i64];unfold s64;split<;>omega
theorem s64_in (n:Nat) (h:n<18446744073709551616):InI64 (s64 n):=by unfold s64 InI64;split<;>omega
theorem beVal_be (n:Int):beVal (be n)=u64 n:=by
 have h:=u64_lt n;simp only [beVal,be,List.foldl_cons,List.foldl_nil,beAt,UInt8.toNat_ofNat'];generalize u64 n=k at h ⊢;simp only [show (256:Nat)^7=72057594037927936 from rfl,show (256:Nat)^6=281474976710656 from rfl,show (256:Nat)^5=1099511627776 from rfl,show (256:Nat)^4=4294967296 from rfl,show (256:Nat)^3=16777216 from rfl,show (256:Nat)^2=65536 from rfl,show (256:Nat)^1=256 from rfl,show (256:Nat)^0=1 from rfl]
 omega
theorem s64_be (n:Int) (h:InI64 n):s64 (beVal (be n))=n:=by
 rw [beVal_be];unfold s64 u64;unfold InI64 at h;split<;>omega
def bytesOf (xs:List UInt8):List UInt8:=be xs.length++xs
@[simp] theorem bytesOf_length (xs:List UInt8):(bytesOf xs).length=8+xs.length:=by simp [bytesOf]
end Go.Sp
end
end
section
/- Texts of this proof, one behind the other. -/
section
/- Texts of this proof. -/
namespace Go.Sp
section
variable {ro:Option Nat} {P:Program} {fn:Func} {n:Nat} {R:Ending→World→Prop} {k:List Item} {σ:List (Nat × Value)} {D:List Deferred} {g:Gr} {η ζ θ:List SProp} {ops:Array Oper} {L l:List Nat} {i d:Nat} {t e:TypeId} {x y z:Operand} {α:Type} {T:Rp α}
theorem S.unroll {c:Code} (h:S ro P fn n R (.code c::.inLoop c::k) σ D g η):S ro P fn n R (.code (.loop c)::k) σ D g η :=
 S.loop (fun _:Unit=>True) (fun _=>σ) (fun _=>η) (fun _=>0) () trivial Sub.refl rfl fun _ _ _=>h
theorem Does.sliceTo0 {kb:IntKind} {a:Option Addr} {m c q:Nat} {zb:Int} (ht:P.underlying t=some (.slice e)) (he:(P.info? e).map (·.size)=some T.k) (hx:ev σ x=some (.slice a m c)) (hy:ev σ y=some (.int kb zb)) (hz:zb=(q:Int)) (hq:q≤c) :
  Does P (.slice t x none (some y) none) σ g η (.slice a q c) η :=
 fun o ρ w ho hk hw=>⟨w,by
  subst hz
  cases a<;>simp [execOp,ho,hk x _ hx,hk y _ hy,Instr.sliceAt,run_underlying ht,Instr.slice,Instr.sliceBounds,Instr.sliceBound,asIntOf,hq,run_sizeOf he,Addr.add],hw⟩
theorem Does.min2 {kd:IntKind} {a b:Int} (hx:ev σ x=some (.int kd a)) (hy:ev σ y=some (.int kd b)) :
  Does P (.call ⟨.builtin .min,#[x,y],#[t,t]⟩) σ g η (.int kd (if b<a then b else a)) η :=
 fun o ρ w ho hk hw=>⟨w,by
  simp [execOp,ho,hk x _ hx,hk y _ hy,resolve,invoke,builtin,Builtin.min_,Builtin.min2],hw⟩
theorem Sel.app {η ζ θ:List SProp} {A:SProp} (s:Sel η A ζ):Sel (η++θ) A (ζ++θ):=by
 induction s with
 |here=>exact .here
 |there _ ih=>exact .there ih
theorem ODg.litP {fl:Bool} {by_ len:Nat} {z:List Value} {parts:Array (Nat × Operand)} {vs:List Value} {ys:List α} (ho:Fires ops i n σ d (.buildSlice t len parts)) (hd:hdOk fl ops i l=true) (ht:P.underlying t=some (.slice e)) (he:elemIs P e T.k by_ z) (hk:0<T.k)
  (hp:partsOf σ parts.toList 0=some vs) (hlen:parts.toList.length=len) (hvs:All2 (T.rel Fr.emp) (vs.map (·.cells.toList)) ys) (h24:len*T.k≤16777216)
  (h:∀ a c,OD P fn n R ops k D g l ((d,.slice a len c)::σ) (OwnP T e (.slice a len c) ys::η)):ODx P fn n R ops k D g fl (i::l) σ η :=
 ODg.loudE (K:=fun v η' =>∃ a c,v=.slice a len c∧η' =OwnP T e v ys::η) ho rfl hd (fun _=>(DoesE.litP ht he hk hp hlen hvs h24).imp fun _ _ ⟨a,c,h1,h2⟩=>⟨_,⟨a,c,h1,rfl⟩,h2⟩)
  fun _ _ ⟨a,c,h1,h2⟩=>by subst h1;subst h2;exact h a c
theorem OD.litP {by_ len:Nat} {z:List Value} {parts:Array (Nat × Operand)} {vs:List Value} {ys:List α} (ho:Fires ops i n σ d (.buildSlice t len parts)) (hd:descOk ops [i] l=true) (ht:P.underlying t=some (.slice e)) (he:elemIs P e T.k by_ z) (hk:0<T.k) (hp:partsOf σ parts.toList 0=some vs) (hlen:parts.toList.length=len) (hvs:All2 (T.rel Fr.emp) (vs.map (·.cells.toList)) ys) (h24:len*T.k≤16777216) (h:∀ a c,OD P fn n R ops k D g l ((d,.slice a len c)::σ) (OwnP T e (.slice a len c) ys::η)):OD P fn n R ops k D g (i::l) σ η:=ODg.litP (fl:=false) ho (by simpa [hdOk] using hd) ht he hk hp hlen hvs h24 h
theorem ODt.litP {by_ len:Nat} {z:List Value} {parts:Array (Nat × Operand)} {vs:List Value} {ys:List α} (ho:Fires ops i n σ d (.buildSlice t len parts)) (_:true=true) (ht:P.underlying t=some (.slice e)) (he:elemIs P e T.k by_ z) (hk:0<T.k) (hp:partsOf σ parts.toList 0=some vs) (hlen:parts.toList.length=len) (hvs:All2 (T.rel Fr.emp) (vs.map (·.cells.toList)) ys) (h24:len*T.k≤16777216) (h:∀ a c,OD P fn n R ops k D g l ((d,.slice a len c)::σ) (OwnP T e (.slice a len c) ys::η)):ODx P fn n R ops k D g true (i::l) σ η:=ODg.litP (fl:=true) ho rfl ht he hk hp hlen hvs h24 h
theorem ODg.appendO {fl:Bool} {by_:Nat} {z:List Value} {v u:Value} {xs ys:List α} (ho:Fires ops i n σ d (.call ⟨.builtin .append,#[x,y],#[t,t]⟩)) (hd:hdOk fl ops i l=true) (ht:P.underlying t=some (.slice e)) (he:elemIs P e T.k by_ z) (hk:0<T.k) (hx:ev σ x=some v) (hy:ev σ y=some u)
  (hl:Sel η (OwnP T e u ys) θ) (hs:Sel θ (OwnP T e v xs) ζ) (hb:(xs.length+ys.length)*by_≤140737488355328) (h63:xs.length+ys.length≤9223372036854775807)
  (h:∀ a c,OD P fn n R ops k D g l ((d,.slice a (xs.length+ys.length) c)::σ) (OwnP T e (.slice a (xs.length+ys.length) c) (xs++ys)::ζ)):ODx P fn n R ops k D g fl (i::l) σ η :=
 ODg.loudE (K:=fun v' η' =>∃ a c,v' =.slice a (xs.length+ys.length) c∧η' =OwnP T e v' (xs++ys)::ζ) ho rfl hd (fun _=>(DoesE.appendO ht he hk hx hy hl.app hs.app hb h63).imp fun _ _ ⟨a,c,h1,h2⟩=>⟨_,⟨a,c,h1,rfl⟩,h2⟩)
  fun _ _ ⟨a,c,h1,h2⟩=>by subst h1;subst h2;exact h a c
theorem OD.appendO {by_:Nat} {z:List Value} {v u:Value} {xs ys:List α} (ho:Fires ops i n σ d (.call ⟨.builtin .append,#[x,y],#[t,t]⟩)) (hd:descOk ops [i] l=true) (ht:P.underlying t=some (.slice e)) (he:elemIs P e T.k by_ z) (hk:0<T.k) (hx:ev σ x=some v) (hy:ev σ y=some u) (hl:Sel η (OwnP T e u ys) θ) (hs:Sel θ (OwnP T e v xs) ζ) (hb:(xs.length+ys.length)*by_≤140737488355328) (h63:xs.length+ys.length≤9223372036854775807) (h:∀ a c,OD P fn n R ops k D g l ((d,.slice a (xs.length+ys.length) c)::σ) (OwnP T e (.slice a (xs.length+ys.length) c) (xs++ys)::ζ)):OD P fn n R ops k D g (i::l) σ η:=ODg.appendO (fl:=false) ho (by simpa [hdOk] using hd) ht he hk hx hy hl hs hb h63 h
theorem ODg.appendP {fl:Bool} {by_:Nat} {z:List Value} {v u:Value} {xs ys:List α} (ho:Fires ops i n σ d (.call ⟨.builtin .append,#[x,y],#[t,t]⟩)) (hd:hdOk fl ops i l=true) (hT:T.Pure) (ht:P.underlying t=some (.slice e)) (he:elemIs P e T.k by_ z) (hk:0<T.k) (hx:ev σ x=some v) (hy:ev σ y=some u)
  (hs:Sel η (OwnP T e v xs) ζ) (hu:Arr T g.h u ys) (hb:(xs.length+ys.length)*by_≤140737488355328) (h63:xs.length+ys.length≤9223372036854775807)
  (h:∀ a c,OD P fn n R ops k D g l ((d,.slice a (xs.length+ys.length) c)::σ) (OwnP T e (.slice a (xs.length+ys.length) c) (xs++ys)::ζ)):ODx P fn n R ops k D g fl (i::l) σ η :=
 ODg.loudE (K:=fun v' η' =>∃ a c,v' =.slice a (xs.length+ys.length) c∧η' =OwnP T e v' (xs++ys)::ζ) ho rfl hd (fun _=>(DoesE.appendP hT ht he hk hx hy hs.app hu hb h63).imp fun _ _ ⟨a,c,h1,h2⟩=>⟨_,⟨a,c,h1,rfl⟩,h2⟩)
  fun _ _ ⟨a,c,h1,h2⟩=>by subst h1;subst h2;exact h a c
theorem OD.appendP {by_:Nat} {z:List Value} {v u:Value} {xs ys:List α} (ho:Fires ops i n σ d (.call ⟨.builtin .append,#[x,y],#[t,t]⟩)) (hd:descOk ops [i] l=true) (hT:T.Pure) (ht:P.underlying t=some (.slice e)) (he:elemIs P e T.k by_ z) (hk:0<T.k) (hx:ev σ x=some v) (hy:ev σ y=some u) (hs:Sel η (OwnP T e v xs) ζ) (hu:Arr T g.h u ys) (hb:(xs.length+ys.length)*by_≤140737488355328) (h63:xs.length+ys.length≤9223372036854775807) (h:∀ a c,OD P fn n R ops k D g l ((d,.slice a (xs.length+ys.length) c)::σ) (OwnP T e (.slice a (xs.length+ys.length) c) (xs++ys)::ζ)):OD P fn n R ops k D g (i::l) σ η:=ODg.appendP (fl:=false) ho (by simpa [hdOk] using hd) hT ht he hk hx hy hs hu hb h63 h
theorem ODg.idxOwn {v:Value} {xs:List α} {j:Nat} {kd:IntKind} (ho:Fires ops i n σ d (.indexAddr t x y)) {fl:Bool} (hd:hdOk fl ops i l=true) (ht:P.underlying t=some (.slice e)) (he:(P.info? e).map (·.size)=some T.k) (hx:ev σ x=some v) {zi:Int} (hy:ev σ y=some (.int kd zi)) (hzi:zi=(j:Int))
  (hs:Sel η (OwnP T e v xs) ζ) (hj:j<xs.length) (h:∀ p,PtrIn v T.k j p→OD P fn n R ops k D g l ((d,.pointer (some p))::σ) η):ODx P fn n R ops k D g fl (i::l) σ η :=
 ODx.perm hs.perm (ODg.loudE (η:=OwnP T e v xs::ζ) (K:=fun u η' =>∃ p,u=.pointer (some p)∧PtrIn v T.k j p∧η' =OwnP T e v xs::ζ) ho rfl hd
  (fun _=>(DoesE.idxOwn ht he hx hy hzi Sel.here hj).imp fun _ _ ⟨p,a,b,c⟩=>⟨_,⟨p,a,b,rfl⟩,c⟩) fun _ _ ⟨p,a,b,c⟩=>by subst a;subst c;exact ODx.perm hs.perm.symm (h p b))
theorem OD.idxOwn {v:Value} {xs:List α} {j:Nat} {kd:IntKind} (ho:Fires ops i n σ d (.indexAddr t x y)) (hd:descOk ops [i] l=true) (ht:P.underlying t=some (.slice e)) (he:(P.info? e).map (·.size)=some T.k) (hx:ev σ x=some v) {zi:Int} (hy:ev σ y=some (.int kd zi)) (hzi:zi=(j:Int)) (hs:Sel η (OwnP T e v xs) ζ) (hj:j<xs.length) (h:∀ p,PtrIn v T.k j p→OD P fn n R ops k D g l ((d,.pointer (some p))::σ) η):OD P fn n R ops k D g (i::l) σ η:=ODg.idxOwn (fl:=false) ho (by simpa [hdOk] using hd) ht he hx hy hzi hs hj h
theorem ODg.storeOwn {v u:Value} {xs:List α} {j q:Nat} {p:Addr} {a:α} (ho:opAtU ops q=some (.store t x y)) {fl:Bool} (hd:hdOk fl ops q l=true) (hsz:(P.info? t).map (·.size)=some T.k) (hx:ev σ x=some (.pointer (some p))) (hp:PtrIn v T.k j p) (hy:ev σ y=some u)
  (hs:Sel η (OwnP T e v xs) ζ) (hj:j<xs.length) (hu:T.rel Fr.emp u.cells.toList a) (h:OD P fn n R ops k D g l σ (OwnP T e v (xs.set j a)::ζ)):ODx P fn n R ops k D g fl (q::l) σ η :=
 ODx.perm hs.perm (ODg.loudU (η:=OwnP T e v xs::ζ) (η' :=OwnP T e v (xs.set j a)::ζ) ho rfl hd (fun _=>.storeOwn hsz hx hp hy Sel.here hj hu) h)
theorem OD.storeOwn {v u:Value} {xs:List α} {j q:Nat} {p:Addr} {a:α} (ho:opAtU ops q=some (.store t x y)) (hd:descOk ops [q] l=true) (hsz:(P.info? t).map (·.size)=some T.k) (hx:ev σ x=some (.pointer (some p))) (hp:PtrIn v T.k j p) (hy:ev σ y=some u) (hs:Sel η (OwnP T e v xs) ζ) (hj:j<xs.length) (hu:T.rel Fr.emp u.cells.toList a) (h:OD P fn n R ops k D g l σ (OwnP T e v (xs.set j a)::ζ)):OD P fn n R ops k D g (q::l) σ η:=ODg.storeOwn (fl:=false) ho (by simpa [hdOk] using hd) hsz hx hp hy hs hj hu h
theorem OD.slot {v v' :Value} (q:Nat) (hl:look σ q=some v) (h0:v=v') (h:OD P fn n R ops k D g L ((q,v')::σ) η):OD P fn n R ops k D g L σ η:=OD.weaken h (Sub.consE hl h0 Sub.refl)
end
theorem u8_inj {a b:UInt8} (h:(a.toNat:Int)=b.toNat):a=b:=UInt8.toNat_inj.mp (by omega)
end Go.Sp
end
section
/- Texts of this proof. -/
namespace Go.Sp
theorem Holds.putObj {w:World} {g:Gr} {η:List SProp} {b:Nat} {o:Obj} (o' :Obj) (h:Holds w g (blk b o::η)):Holds (w.putObj b o') g (blk b o' ::η):=by
 have hb:=h.block;have hlt:=(Array.getElem?_eq_some_iff.1 hb).1;exact h.setBlock (World.putObj_heap_same hlt) (fun i hi=>World.putObj_heap_other hi) rfl rfl rfl
section ycon
variable {P:Program} {l:Nat} {args:Array Value} {r:Fr} {η:List SProp} {Post:Ending→List SProp→Prop}
end ycon
section
variable {ro:Option Nat} {P:Program} {fn:Func} {n:Nat} {R:Ending→World→Prop} {k:List Item} {σ:List (Nat × Value)} {D:List Deferred} {g:Gr} {η ζ θ:List SProp}
 {ops:Array Oper} {i d l:Nat} {ls:List Nat} {f:FuncId} {x y:Operand} {xs:Array Operand} {ts:Array TypeId} {vals:List Value} {K:Value→List SProp→Prop}
def under:List Nat→List Value→List (Nat × Value)→List (Nat × Value)
 |p::ps,v::vs,σ=>under ps vs ((p,v)::σ)
 |_,_,σ=>σ
theorem S.objIs {todo:List Item} {b:Nat} {T:TypeId} {cs cs' :List Value} (s:Sel η (obj b T cs) ζ) (e:cs=cs') (h:S ro P fn n R todo σ D g (obj b T cs' ::ζ)):S ro P fn n R todo σ D g η:=S.sel s (e ▸ h)
end
end Go.Sp
end
end
end
end
end
section
/- Texts of this proof, one behind the other. -/
section
/- Texts of this proof, one behind the other. -/
section
/- Texts of this proof, one behind the other. -/
section
/- Texts of this proof. -/
namespace Go.Sp
open Go.ChangeShapes
theorem fr_cell (w:World) (a:Addr):Fr.cell w.fr a=w.cell? a:=by
 unfold Fr.cell World.cell? World.fr
 cases w.heap[a.block]? with
 |none=>rfl
 |some o=>cases o<;>rfl
def Rp.unit:Rp Unit:={ k:=0,rel:=fun _ cs _=>cs=[],len:=fun h=>by rw [h];rfl,mono:=fun _ h=>h,one:=fun h c hc=>by subst h;simp at hc }
def Rp.prod {α β:Type} (T:Rp α) (U:Rp β):Rp (α × β) :=
 {k:=T.k+U.k,rel:=fun h cs x=>∃ c1 c2,cs=c1++c2∧T.rel h c1 x.1∧U.rel h c2 x.2,len:=fun ⟨c1,c2,h,a,b⟩=>by rw [h,List.length_append,T.len a,U.len b]
  mono:=fun s ⟨c1,c2,h,a,b⟩=>⟨c1,c2,h,T.mono s a,U.mono s b⟩
  one:=fun ⟨c1,c2,h,a,b⟩ c hc=>by
   subst h
   rcases List.mem_append.1 hc with x|x
   ·exact T.one a c x
   ·exact U.one b c x }
def light {H:Type} (P:Program) (t:TypeId) (d:DataW H):Prop:=∀ n∈d.weights P t,n≤reachBytes
theorem light_all {H:Type} {P:Program} {e:TypeId}:∀ {ds:List (DataW H)} (_:∀ n∈DataW.weightsAll P e ds,n≤reachBytes) (i:Nat) (hi:i<ds.length),light P e ds[i]
 |d::ds,h,0,_=>fun n hn=>h n (by simp [DataW.weightsAll];exact .inl hn)
 |d::ds,h,i+1,hi=>light_all (ds:=ds) (fun n hn=>h n (by simp [DataW.weightsAll];exact .inr hn)) i (by simpa using hi)
theorem light_each {H:Type} {P:Program}:∀ {ts:List TypeId} {ds:List (DataW H)} (_:∀ n∈DataW.weightsEach P ts ds,n≤reachBytes) (i:Nat) (ht:i<ts.length) (hi:i<ds.length),light P ts[i] ds[i]
 |t::ts,d::ds,h,0,_,_=>fun n hn=>h n (by simp [DataW.weightsEach];exact .inl hn)
 |t::ts,d::ds,h,i+1,ht,hi=>light_each (ts:=ts) (ds:=ds) (fun n hn=>h n (by simp [DataW.weightsEach];exact .inr hn)) i (by simpa using ht) (by simpa using hi)
def Opens (P:Program) (t:TypeId) {α:Type} (T:Rp α) (Q:α→Prop):Prop :=
 ∀ (H:Type) (enc:TypeId × Value→H) (w:World) (base:Nat) (spare:Nat→Bool) (held:Bool) (fuel:Nat) (cs:List Value) (x:DataW H × List MemPlace),
  DataW.trod enc P w base spare held fuel t cs=some x→light P t x.1→∃ a,T.rel w.fr cs a∧Q a
def Within {α:Type} (Q:α→Prop) (xs:List α):Prop:=xs.length≤140737488351232∧∀ x∈xs,Q x
def Anyv {α:Type} (_:α):Prop:=True
theorem Opens.u8 {P:Program} {t:TypeId} (ht:P.underlying t=some (.int .u8)):Opens P t Rp.u8 Anyv:=fun _ _ _ _ _ _ _ _ _ h _=>by
 obtain ⟨n,rfl,_,hw⟩:=DataW.trod_int ht h;have:0≤n∧n≤255:=by simpa [Lit.wf,IntKind.min,IntKind.max,IntKind.wrap,IntKind.bits,IntKind.signed] using hw
 refine ⟨UInt8.ofNat n.toNat,?_,trivial⟩
 show _=_
 have e:((UInt8.ofNat n.toNat).toNat:Int)=n:=by
  have:(UInt8.ofNat n.toNat).toNat=n.toNat % 256:=by simp
  omega
 rw [byteV,e]
theorem Opens.i64 {P:Program} {t:TypeId} (ht:P.underlying t=some (.int .i64)):Opens P t Rp.i64 InI64:=fun _ _ _ _ _ _ _ _ _ h _=>by
 obtain ⟨n,rfl,_,hw⟩:=DataW.trod_int ht h;have:InI64 n:=by unfold InI64;simpa [Lit.wf,IntKind.min,IntKind.max,IntKind.wrap,IntKind.bits,IntKind.signed] using hw
 exact ⟨n,⟨rfl,this⟩,this⟩
theorem Opens.bool {P:Program} {t:TypeId} (ht:P.underlying t=some .bool):Opens P t Rp.bool Anyv:=fun _ _ _ _ _ _ _ _ _ h _=>by
 obtain ⟨n,rfl,_⟩:=DataW.trod_bool ht h;exact ⟨n,rfl,trivial⟩
theorem str_data (s:ByteArray):str s.data.toList=s:=by cases s;rfl
theorem Opens.str {P:Program} {t:TypeId} (ht:P.underlying t=some .string):Opens P t Rp.str (fun s=>s.length≤140737488351232):=fun _ _ _ _ _ _ _ _ _ h hl=>by
 obtain ⟨s,rfl,rfl,hs⟩:=DataW.trod_string ht h;exact ⟨s.data.toList,⟨by rw [str_data],by unfold maxLen at hs;rw [Array.length_toList];exact Nat.le_trans hs (by decide)⟩,hl _ (by simp [DataW.weights])⟩
theorem choose_list {α:Type} {p:Nat→α→Prop}:∀ {n:Nat} (_:∀ i,i<n→∃ x,p i x),∃ l:List α,l.length=n∧∀ i (hi:i<l.length),p i l[i]
 |0,_=>⟨[],rfl,fun i hi=>absurd hi (by simp)⟩
 |n+1,h=>by
  obtain ⟨l,h1,h2⟩:=choose_list (n:=n) (fun i hi=>h i (by omega));obtain ⟨x,hx⟩:=h n (by omega);refine ⟨l++[x],by simp [h1],fun i hi=>?_⟩
  by_cases hi' :i<l.length
  ·rw [List.getElem_append_left hi'];exact h2 i hi'
  ·have:i=n:=by simp at hi;omega
   subst this;rw [List.getElem_append_right (by omega)];simpa using hx
theorem All2.of_get {α β:Type} {R:β→α→Prop}:∀ {bs:List β} {as:List α},bs.length=as.length→(∀ i (hb:i<bs.length) (ha:i<as.length),R bs[i] as[i])→All2 R bs as
 |[],[],_,_=>trivial
 |_::_,[],h,_=>by simp at h
 |[],_::_,h,_=>by simp at h
 |b::bs,a::as,h,hr=>⟨hr 0 (by simp) (by simp),All2.of_get (by simpa using h) fun i hb ha=>hr (i+1) (by simp;omega) (by simp;omega)⟩
theorem flat_len_k {α:Type} {k:Nat}:∀ {css:List (List α)},(∀ c∈css,c.length=k)→css.flatten.length=css.length*k
 |[],_=>by simp
 |c::css,h=>by
  rw [List.flatten_cons,List.length_append,flat_len_k (fun d hd=>h d (by simp [hd])),h c (by simp)];simp [Nat.succ_mul];omega
theorem flat_get_k {α:Type} {k:Nat} (hk:0<k):∀ {css:List (List α)} (_:∀ c∈css,c.length=k) (j:Nat),css.flatten[j]?=(css[j / k]?).bind fun c=>c[j % k]?
 |[],_,j=>by simp
 |c::css,h,j=>by
  have hc:=h c (by simp)
  by_cases hj:j<k
  ·rw [List.flatten_cons,List.getElem?_append_left (by omega),Nat.div_eq_of_lt hj,Nat.mod_eq_of_lt hj];simp
  ·have hj' :k≤j:=by omega
   rw [List.flatten_cons,List.getElem?_append_right (by omega),hc,flat_get_k hk (fun d hd=>h d (by simp [hd]))];have e1:j / k=(j - k) / k+1:=by rw [Nat.div_eq_sub_div hk hj']
   have e2:j % k=(j - k) % k:=by rw [Nat.mod_eq_sub_mod hj']
   rw [e1,e2];simp
theorem Opens.slice {P:Program} {t e:TypeId} {α:Type} {T:Rp α} {Q:α→Prop} (ho:Opens P e T Q) (ht:P.underlying t=some (.slice e)) (hc:P.cellsOf e=T.k) (hy:0<P.bytesOf e) (hk:0<T.k):Opens P t (Rp.slice T) (Within Q):=fun H enc w base spare held fuel cs x h hlt=>by
 rcases DataW.trod_slice ht h with ⟨rfl,_⟩|⟨a,len,cap,elems,rest,n,_,rfl,rfl,hb,hl,hm,hlen,hel,_,_⟩
 ·exact ⟨[],⟨_,rfl,Arr.nil⟩,by simp,by simp⟩
 have hw:len*P.bytesOf e≤reachBytes∧∀ n∈DataW.weightsAll P e (elems.map (·.1)),n≤reachBytes:=by
  unfold light at hlt;simp only [DataW.weights,ht,List.length_map,List.mem_cons,List.mem_append] at hlt;exact ⟨Nat.le_trans (Nat.mul_le_mul_right _ (by omega)) (hlt _ (.inl rfl)),fun n hn=>hlt n (.inr (.inl hn))⟩
 have hlen2:len≤140737488351232:=by
  have:=Nat.le_trans (Nat.le_mul_of_pos_right len hy) hw.1;unfold reachBytes at this;omega
 have each:∀ i,i<len→∃ y:List Value × α,y.1.length=T.k∧(T.rel w.fr y.1 y.2∧Q y.2)∧∀ q,q<T.k→w.cell? ((a.add (i*T.k)).add q)=y.1[q]?:=by
  intro i hi
  have h1:=hel i hi;rw [List.getElem?_eq_getElem (by omega),hc,Option.bind_eq_some_iff] at h1;obtain ⟨ds,h2,h3⟩:=h1;obtain ⟨b,hb⟩:=ho _ enc w base spare held n ds _ h3 (by have h9:=light_all hw.2 i (by simp;omega);rw [List.getElem_map] at h9;exact h9);obtain ⟨_,h4,h5⟩:=World.cells?_some h2;exact ⟨(ds,b),h4,hb,h5⟩
 obtain ⟨l,h1,h2⟩:=choose_list each;have hQ:Within Q (l.map (·.2)):=by
  refine ⟨by simp;omega,fun y hy=>?_⟩;obtain ⟨z,hz,rfl⟩:=List.mem_map.1 hy;obtain ⟨i,hi,rfl⟩:=List.mem_iff_getElem.1 hz;exact (h2 i hi).2.1.2
 refine ⟨l.map (·.2),⟨_,rfl,l.map (·.1),?_,some a,cap,?_,?_,⟨?_,fun h=>by cases h⟩,?_,?_⟩,hQ⟩
 ·refine All2.of_get (by simp) fun i hb ha=>?_
  simp only [List.getElem_map];exact (h2 i (by simpa using hb)).2.1.1
 ·simp [h1]
 ·simp [h1];omega
 ·simpa [maxLen] using hm
 ·rw [flat_len_k (k:=T.k)]
  ·simp
  ·intro c hc
   obtain ⟨y,hy,rfl⟩:=List.mem_map.1 hc;obtain ⟨i,hi,rfl⟩:=List.mem_iff_getElem.1 hy;exact (h2 i hi).1
 ·intro j hj
  refine ⟨a,rfl,?_⟩;have hall:∀ c∈l.map (·.1),c.length=T.k:=by
   intro c hc
   obtain ⟨y,hy,rfl⟩:=List.mem_map.1 hc;obtain ⟨i,hi,rfl⟩:=List.mem_iff_getElem.1 hy;exact (h2 i hi).1
  rw [fr_cell,← List.getElem?_eq_getElem hj,flat_get_k hk hall];have hj2:j<l.length*T.k:=by rw [flat_len_k hall] at hj;simpa using hj
  have hi:j / T.k<l.length:=by rw [Nat.div_lt_iff_lt_mul hk];exact hj2
  have hq:j % T.k<T.k:=Nat.mod_lt _ hk;have:=(h2 _ hi).2.2 _ hq;rw [Addr.add_add,show j / T.k*T.k+j % T.k=j from by rw [Nat.mul_comm];exact Nat.div_add_mod j T.k] at this;rw [this]
  simp [List.getElem?_eq_getElem hi]
theorem Opens.arr {P:Program} {t:TypeId} {α:Type} {T:Rp α} {Q:List α→Prop} (ho:Opens P t (Rp.slice T) Q) {H:Type} {enc:TypeId × Value→H} {w:World} {base:Nat} {spare:Nat→Bool} {held:Bool} {fuel:Nat} {v:Value} {x:DataW H × List MemPlace}
  (h:DataW.trod enc P w base spare held fuel t [v]=some x) (hl:light P t x.1):∃ a,Arr T w.fr v a∧Q a:=by
 obtain ⟨a,⟨u,h1,h2⟩,hq⟩:=ho _ enc w base spare held fuel _ x h hl
 cases h1
 exact ⟨a,h2,hq⟩
def OpensF (P:Program) (fs:List Field) (off:Nat) {α:Type} (T:Rp α) (Q:α→Prop):Prop :=
 ∀ (H:Type) (enc:TypeId × Value→H) (w:World) (base:Nat) (spare:Nat→Bool) (held:Bool) (fuel:Nat) (cs:List Value),
  (∀ f∈fs,∃ x,DataW.trod enc P w base spare held fuel f.type ((cs.drop f.offset).take (P.cellsOf f.type))=some x∧light P f.type x.1)→cs.length=off+T.k→∃ a,T.rel w.fr (cs.drop off) a∧Q a
theorem OpensF.nil {P:Program} {off:Nat}:OpensF P [] off Rp.unit Anyv:=fun _ _ _ _ _ _ _ cs _ h=>⟨(),by show cs.drop off=[];rw [List.drop_eq_nil_of_le];simp [Rp.unit] at h;omega,trivial⟩
theorem OpensF.cons {P:Program} {f:Field} {fs:List Field} {off:Nat} {α β:Type} {T:Rp α} {U:Rp β} {Q:α→Prop} {R:β→Prop} (ho:f.offset=off) (hc:P.cellsOf f.type=T.k) (h1:Opens P f.type T Q) (h2:OpensF P fs (off+T.k) U R):OpensF P (f::fs) off (Rp.prod T U) (fun x=>Q x.1∧R x.2) :=
 fun H enc w base spare held fuel cs h hl=>by
  obtain ⟨x,hx,hx'⟩:=h f (by simp);rw [ho,hc] at hx;obtain ⟨a,ha,qa⟩:=h1 _ _ _ _ _ _ _ _ _ hx hx';obtain ⟨b,hb,qb⟩:=h2 _ enc w base spare held fuel cs (fun g hg=>h g (by simp [hg])) (by rw [hl];simp [Rp.prod];omega);exact ⟨(a,b),⟨_,_,(by rw [← List.drop_drop,List.take_append_drop]:cs.drop off=(cs.drop off).take T.k++cs.drop (off+T.k)),ha,hb⟩,qa,qb⟩
theorem Opens.struct {P:Program} {t:TypeId} {fs:List Field} {α:Type} {T:Rp α} {Q:α→Prop} (ho:OpensF P fs 0 T Q) (ht:P.underlying t=some (.struct fs.toArray)) (hc:P.cellsOf t=T.k):Opens P t T Q:=fun H enc w base spare held fuel cs x h hlt=>by
 obtain ⟨xs,n,_,rfl,hl,hn,hf⟩:=DataW.trod_struct ht h;unfold light at hlt;simp only [DataW.weights,ht] at hlt;have:=ho _ enc w base spare held n cs (fun f hf' =>by
  obtain ⟨i,hi,rfl⟩:=List.mem_iff_getElem.1 hf';have:=hf i fs[i] (by simp [hi]);have hi2:i<xs.length:=by simp at hn;omega
  rw [List.getElem?_eq_getElem hi2] at this;refine ⟨_,by simpa using this,?_⟩;have:=light_each hlt i (by simpa using hi) (by simpa using hi2)
  simpa using this) (by rw [hl,hc];simp)
 simpa using this
end Go.Sp
end
section
/- Texts of this proof, one behind the other. -/
section
/- Texts of this proof. -/
namespace Go.Sp
structure Gp (α:Type) where
 rp:Rp α
 own:List Value→α→SProp
 rel:∀ {cs:List Value} {a:α} {m:Fr},own cs a m→rp.rel m cs a
theorem All2.len2 {α β:Type} {R:β→α→Prop}:∀ {bs:List β} {as:List α},All2 R bs as→bs.length=as.length
 |[],[],_=>rfl
 |[],_::_,h=>h.elim
 |_::_,[],h=>h.elim
 |_::_,_::_,h=>congrArg Nat.succ (All2.len2 h.2)
theorem all2_cells {k:Nat} {h:Fr}:∀ {cs:List (List Value)} {ds:List (List Value)},All2 ((Rp.cells k).rel h) cs ds→cs=ds
 |[],[],_=>rfl
 |[],_::_,h=>h.elim
 |_::_,[],h=>h.elim
 |_::_,_::_,h=>by rw [h.1.1,all2_cells h.2]
theorem Arr.ofCells {α:Type} {T:Rp α} {k:Nat} {h:Fr} {v:Value} {css:List (List Value)} {xs:List α} (h1:Arr (Rp.cells k) h v css) (h2:All2 (T.rel h) css xs) (hk:k=T.k):Arr T h v xs:=by
 obtain ⟨ds,p,q⟩:=h1;obtain rfl:=all2_cells p;subst hk;exact ⟨ds,h2,by rw [← h2.len2];exact q⟩
def ListP {α:Type} (G:Gp α) (e:TypeId) (v:Value) (xs:List α):SProp:=fun m=>∃ css,Sat [OwnP (Rp.cells G.rp.k) e v css,EachP G.own css xs] m
theorem ListP.arr {α:Type} {G:Gp α} {e:TypeId} {v:Value} {xs:List α} {m:Fr}:ListP G e v xs m→Arr G.rp m v xs:=by
 rintro ⟨css,h1,h2,_,s1,s2,⟨ds,p,q⟩,h3,_,_,t,_,y,_⟩;have hd:=all2_cells p;have hy:=EachP.all2 (R:=fun cs a=>G.rp.rel m cs a) (k:=m) (fun b a m' z s=>G.rp.mono s (G.rel z)) y (Fr.sub_trans t s2);refine ⟨css,hy,?_⟩;rw [← hy.len2];subst hd;exact (q.sl).mono s1
def Gp.pure {α:Type} (T:Rp α):Gp α:={ rp:=T,own:=fun cs a _=>T.rel Fr.emp cs a,rel:=fun h=>T.mono (Fr.emp_sub _) h }
def Gp.row {α:Type} (T:Rp α) (e:TypeId):Gp (List α):={ rp:=Rp.slice T,own:=fun cs xs m=>∃ v,cs=[v]∧OwnP T e v xs m,rel:=fun ⟨v,h,x⟩=>⟨v,h,x.arr⟩ }
def Gp.list {α:Type} (G:Gp α) (e:TypeId):Gp (List α):={ rp:=Rp.slice G.rp,own:=fun cs xs m=>∃ v,cs=[v]∧ListP G e v xs m,rel:=fun ⟨v,h,x⟩=>⟨v,h,x.arr⟩ }
def Gp.prod {α β:Type} (A:Gp α) (B:Gp β):Gp (α × β) :=
 {rp:=Rp.prod A.rp B.rp,own:=fun cs x m=>∃ c d,cs=c++d∧Sat [A.own c x.1,B.own d x.2] m
  rel:=fun ⟨c,d,h,z⟩=>by
   obtain ⟨h1,h2,_,s1,s2,p,q⟩:=Sat.two.1 z;obtain ⟨h3,t,u⟩:=q;exact ⟨c,d,h,A.rp.mono s1 (A.rel p),B.rp.mono (Fr.sub_trans t s2) (B.rel u)⟩ }
def Gp.unit:Gp Unit:={ rp:=Rp.unit,own:=fun cs _ _=>cs=[],rel:=fun h=>h }
theorem Gp.own_pure_prod {α β:Type} {T:Rp α} {B:Gp β} {c d:List Value} {x:α} {y:β} {m:Fr} (h:T.rel Fr.emp c x) (h2:B.own d y m):(Gp.prod (Gp.pure T) B).own (c++d) (x,y) m :=
 ⟨c,d,rfl,Fr.emp,m,Fr.emp_disj _,Fr.emp_sub _,Fr.sub_refl _,h,m,Fr.emp,Fr.disj_symm (Fr.emp_disj _),Fr.sub_refl _,Fr.emp_sub _,h2,trivial⟩
section
variable {ro:Option Nat} {P:Program} {fn:Func} {n:Nat} {R:Ending→World→Prop} {k:List Item} {σ:List (Nat × Value)} {D:List Deferred} {g:Gr} {η ζ θ:List SProp} {ops:Array Oper} {L:List Nat} {todo:List Item}
 {α:Type} {G:Gp α} {e:TypeId} {v:Value} {xs:List α}
theorem sat_listNil {m:Fr} (h:Sat η m):Sat (ListP G e (.slice none 0 0) []::η) m:=by
 refine ⟨Fr.emp,m,Fr.emp_disj _,Fr.emp_sub _,Fr.sub_refl _,⟨[],Fr.emp,Fr.emp,Fr.emp_disj _,Fr.emp_sub _,Fr.emp_sub _,?_,Fr.emp,Fr.emp,Fr.emp_disj _,Fr.emp_sub _,Fr.emp_sub _,trivial,trivial⟩,h⟩;exact ownP_nil _
theorem S.listNil (G:Gp α) (e:TypeId) (h:S ro P fn n R todo σ D g (ListP G e (.slice none 0 0) []::η)):S ro P fn n R todo σ D g η:=S.imp' (fun _=>sat_listNil) h
theorem S.listOpen {k' :Nat} (hk:G.rp.k=k') (s:Sel η (ListP G e v xs) ζ) (h:∀ css,css.length=xs.length→S ro P fn n R todo σ D g (OwnP (Rp.cells k') e v css::EachP G.own css xs::ζ)):S ro P fn n R todo σ D g η:=by
 subst hk;exact S.sel s (S.exi (A:=fun css m=>Sat [OwnP (Rp.cells G.rp.k) e v css,EachP G.own css xs] m) fun css =>
  S.entail (fun _ x=>x) (S.factS (B:=EachP G.own css xs) (.there .here) (p:=css.length=xs.length) (fun _ x=>x.len) fun hl=>h css hl))
theorem sat_list {k' :Nat} (hk:G.rp.k=k') {css:List (List Value)} (s1:Sel η (OwnP (Rp.cells k') e v css) ζ) (s2:Sel ζ (EachP G.own css xs) θ) {m:Fr} (h:Sat η m):Sat (ListP G e v xs::θ) m:=by
 subst hk;exact Sat.join2 (A:=OwnP (Rp.cells G.rp.k) e v css) (B:=EachP G.own css xs) (fun _ x=>⟨css,x⟩) (Sat.cons_imp (fun _ y=>y) (fun _ y=>Sat.perm s2.perm y) (Sat.perm s1.perm h))
theorem S.listShut {k' :Nat} (hk:G.rp.k=k') {css:List (List Value)} (s1:Sel η (OwnP (Rp.cells k') e v css) ζ) (s2:Sel ζ (EachP G.own css xs) θ) (h:S ro P fn n R todo σ D g (ListP G e v xs::θ)):S ro P fn n R todo σ D g η :=
 S.imp' (fun _=>sat_list hk s1 s2) h
theorem S.listPut {k' :Nat} (hk:G.rp.k=k') {css:List (List Value)} {cs:List Value} {a:α} {η₁ η₂:List SProp} (s1:Sel η (OwnP (Rp.cells k') e v (css++[cs])) ζ) (s2:Sel ζ (EachP G.own css xs) η₁) (s3:Sel η₁ (G.own cs a) η₂) (h:S ro P fn n R todo σ D g (ListP G e v (xs++[a])::η₂)):S ro P fn n R todo σ D g η :=
 S.sel s1 (S.each (.there s2) (.there s3) (S.listShut hk (.there .here) .here h))
end
theorem OD.loadL {P:Program} {fn:Func} {n:Nat} {R:Ending→World→Prop} {k:List Item} {σ:List (Nat × Value)} {D:List Deferred} {g:Gr} {η:List SProp} {ops:Array Oper} {l:List Nat} {i d:Nat} {t:TypeId} {x:Operand} {v:Value}
  (ho:Fires ops i n σ d (.load t x)) (hd:descOk ops [i] l=true) (hdo:∀ ζ,Does P (.load t x) σ g (η++ζ) v (η++ζ)) (h:OD P fn n R ops k D g l ((d,v)::σ) η):OD P fn n R ops k D g (i::l) σ η :=
 .loudE (K:=fun v' η' =>v' =v∧η' =η) ho rfl hd (fun ζ o ρ w h1 h2 h3=>let ⟨w',a,b⟩:=hdo ζ o ρ w h1 h2 h3;⟨v,w',η++ζ,⟨η,⟨rfl,rfl⟩,rfl⟩,a,b⟩) (by rintro _ _ ⟨rfl,rfl⟩;exact h)
theorem Con.post {P:Program} {f:FuncId} {args:Array Value} {r:Fr} {η:List SProp} {Post Post' :Ending→List SProp→Prop} (h:Con P f args r η Post) (hp:∀ e η',Post e η' →∀ w g,Holds w g η' →∃ η'',Post' e η'' ∧Holds w g η''):Con P f args r η Post' :=
 fun g hr w hw=>(h g hr w hw).mono fun e w' ⟨η',x,y⟩=>hp e η' x w' g y
theorem Ret.imp {K K' :Value→List SProp→Prop} (h:∀ v η,K v η→K' v η):∀ e η,Ret K e η→Ret K' e η
 |.returned v,η,x=>h v η x
 |.panicked _,_,x=>x.elim
 |.outgrown,_,x=>x.elim
theorem Holds.exi {w:World} {g:Gr} {ζ:List SProp} {α:Type} {A:α→SProp} (h:Holds w g ((fun m=>∃ x,A x m)::ζ)):∃ x,Holds w g (A x::ζ):=by
 obtain ⟨p,q,rr,k,d,s1,s2,k1,k2,kd,t1,t2,⟨x,hx⟩,y⟩:=h;exact ⟨x,p,q,rr,k,d,s1,s2,k1,k2,kd,t1,t2,hx,y⟩
end Go.Sp
end
section
/- Texts of this proof, one behind the other. -/
section
/- Texts of this proof. -/
namespace Go.Sp
section
variable {ro:Option Nat} {P:Program} {fn:Func} {n:Nat} {R:Ending→World→Prop} {k:List Item} {σ:List (Nat × Value)} {D:List Deferred} {g:Gr} {η:List SProp} {ops:Array Oper} {i d:Nat} {l:List Nat} {t:TypeId} {x:Operand}
theorem str_extract (xs:List UInt8) (a b:Nat):(str xs).extract a b=str ((xs.take b).drop a):=by
 have:=ByteArray.extract_mk xs a b;unfold str;rw [this,List.drop_take]
theorem str_does {xs:List UInt8} {lo hi:Option Operand} {a b:Nat} {kl kh:IntKind} (ht:P.underlying t=some .string) (hx:ev σ x=some (.string (str xs)))
  (hlo:∀ y,lo=some y→ev σ y=some (.int kl (a:Int))) (hlo' :lo=none→a=0) (hhi:∀ y,hi=some y→ev σ y=some (.int kh (b:Int))) (hhi' :hi=none→b=xs.length)
  (hab:a≤b) (hb:b≤xs.length):∀ η,Does P (.slice t x lo hi none) σ g η (.string (str ((xs.take b).drop a))) η:=fun η=>.run fun o ρ w ho hk=>by
 have hsz:=str_size xs;have e1:(a:Int)≤(b:Int):=by omega
 have hex:=str_extract xs a b
 cases lo with
 |none =>
  have:=hlo' rfl;subst this
  cases hi with
  |none=>have:=hhi' rfl;subst this;simp [execOp,ho,hk x _ hx,Instr.sliceAt,run_underlying ht,Instr.slice,Instr.sliceBounds,hsz,hex]
  |some y =>
   simp [execOp,ho,hk x _ hx,hk y _ (hhi y rfl),Instr.sliceAt,run_underlying ht,Instr.slice,Instr.sliceBounds,Instr.sliceBound,asIntOf,hsz,hb,hex]
 |some z =>
  cases hi with
  |none=>have:=hhi' rfl;subst this;simp [execOp,ho,hk x _ hx,hk z _ (hlo z rfl),Instr.sliceAt,run_underlying ht,Instr.slice,Instr.sliceBounds,Instr.sliceBound,asIntOf,hsz,hab,hex]
  |some y =>
   simp [execOp,ho,hk x _ hx,hk z _ (hlo z rfl),hk y _ (hhi y rfl),Instr.sliceAt,run_underlying ht,Instr.slice,Instr.sliceBounds,Instr.sliceBound,asIntOf,hsz,hab,hb,hex]
theorem O.strTo {xs:List UInt8} {kb:IntKind} {zb:Int} {b:Nat} {y:Operand} (ho:Fires ops i n σ d (.slice t x none (some y) none)) (ht:P.underlying t=some .string) (hx:ev σ x=some (.string (str xs))) (hy:ev σ y=some (.int kb zb)) (hz:zb=(b:Int)) (hb:b≤xs.length)
  (h:O ro P fn n R ops l k ((d,.string (str (xs.take b)))::σ) D g η):O ro P fn n R ops (i::l) k σ D g η:=by
 subst hz;have:=str_does (P:=P) (σ:=σ) (g:=g) (kl:=.i64) (kh:=kb) (a:=0) (b:=b) ht hx (lo:=none) (hi:=some y) (fun _ h=>nomatch h) (fun _=>rfl) (fun _ h=>by cases h;exact hy) (fun h=>nomatch h) (Nat.zero_le _) hb η;exact O.op ho this h
theorem O.strFrom {xs:List UInt8} {ka:IntKind} {za:Int} {a:Nat} {y:Operand} (ho:Fires ops i n σ d (.slice t x (some y) none none)) (ht:P.underlying t=some .string) (hx:ev σ x=some (.string (str xs))) (hy:ev σ y=some (.int ka za)) (hz:za=(a:Int)) (ha:a≤xs.length)
  (h:O ro P fn n R ops l k ((d,.string (str (xs.drop a)))::σ) D g η):O ro P fn n R ops (i::l) k σ D g η:=by
 subst hz;have:=str_does (P:=P) (σ:=σ) (g:=g) (kl:=ka) (kh:=.i64) (a:=a) (b:=xs.length) ht hx (lo:=some y) (hi:=none) (fun _ h=>by cases h;exact hy) (fun h=>nomatch h) (fun _ h=>nomatch h) (fun _=>rfl) ha (Nat.le_refl _) η;rw [List.take_length] at this;exact O.op ho this h
end
end Go.Sp
end
section
/- Texts of this proof, one behind the other. -/
section
/- Texts of this proof. -/
namespace Go.Sp
section marks
variable {α:Type} (f:Int→Int→α)
def mkL (k n:Nat):List α:=(List.range n).map fun (i:Nat)=>f (k:Int) (i:Int)
@[simp] theorem mkL_length (k n:Nat):(mkL f k n).length=n:=by simp [mkL]
def mkX (k n i:Nat):List α:=(List.range i).map fun (q:Nat)=>f (k:Int) ((n:Int)+(q:Int))
@[simp] theorem mkX_length (k n i:Nat):(mkX f k n i).length=i:=by simp [mkX]
def mkM (j n i:Nat):List α:=(List.range i).map fun (q:Nat)=>f ((j:Int)+(n:Int)) (q:Int)
@[simp] theorem mkM_length (j n i:Nat):(mkM f j n i).length=i:=by simp [mkM]
def mkAll (ns:List Nat) (k:Nat):List (List α):=(List.range k).map fun j=>mkL f j (ns[j]?.getD 0)
@[simp] theorem mkAll_length (ns:List Nat) (k:Nat):(mkAll f ns k).length=k:=by simp [mkAll]
end marks
section
variable {ro:Option Nat} {P:Program} {fn:Func} {n:Nat} {R:Ending→World→Prop} {todo:List Item} {σ:List (Nat × Value)} {D:List Deferred} {g:Gr} {η ζ θ ξ:List SProp} {α:Type} {T:Rp α} {K:Nat} {e:TypeId} {v u:Value} {xs ys:List α}
end
theorem EachP.mono {β α:Type} {A:β→α→SProp} {m k:Fr} (s:m.sub k):∀ {bs:List β} {as:List α},EachP A bs as m→EachP A bs as k
 |[],[],_=>trivial
 |[],_::_,h=>h.elim
 |_::_,[],h=>h.elim
 |_::_,_::_,h=>Sat.mono s h
theorem EachP.app {β α:Type} {A:β→α→SProp}:∀ {bs:List β} {as:List α} {bs' :List β} {as' :List α} {m:Fr},Sat [EachP A bs as,EachP A bs' as'] m→EachP A (bs++bs') (as++as') m
 |[],[],bs',as',m,h=>by
  obtain ⟨_,_,_,_,s2,_,h3,_,_,t,_,y,_⟩:=h;exact EachP.mono (Fr.sub_trans t s2) y
 |[],_::_,_,_,_,h=>by obtain ⟨_,_,_,_,_,x,_⟩:=h;exact x.elim
 |_::_,[],_,_,_,h=>by obtain ⟨_,_,_,_,_,x,_⟩:=h;exact x.elim
 |b::bs,a::as,bs',as',m,h=>by
  obtain ⟨h1,h2,d,s1,s2,x,y⟩:=h;have x' :Sat [A b a,EachP A bs as] h1:=x;obtain ⟨k1,k2,kd,t1,t2,p,k3,k4,kd',u1,u2,q,_⟩:=x'
  show Sat [A b a,EachP A (bs++bs') (as++as')] m
  have d1:k3.disj h2:=Fr.disj_sub d (Fr.sub_trans u1 t2) (Fr.sub_refl _);refine ⟨k1,k3.add h2,Fr.disj_add_right (Fr.disj_sub kd (Fr.sub_refl _) u1) (Fr.disj_sub d t1 (Fr.sub_refl _)),Fr.sub_trans t1 s1,Fr.add_sub (Fr.sub_trans (Fr.sub_trans u1 t2) s1) s2,p,k3.add h2,Fr.emp,Fr.disj_symm (Fr.emp_disj _),Fr.sub_refl _,Fr.emp_sub _,?_,trivial⟩;exact EachP.app ⟨k3,h2,d1,Fr.sub_add_left _ _,Fr.sub_add_right d1,q,y⟩
end Go.Sp
end
section
/- Texts of this proof. -/
namespace Go.Sp
theorem Rp.rel.mono {α:Type} {T:Rp α} {h k:Fr} {cs:List Value} {x:α} (r:T.rel h cs x) (s:h.sub k):T.rel k cs x:=T.mono s r
def mks {α:Type} (f:Int→α) (n:Nat):List α:=(List.range n).map fun (i:Nat)=>f (i:Int)
@[simp] theorem mks_length {α:Type} (f:Int→α) (n:Nat):(mks f n).length=n:=by simp [mks]
theorem Gp.mkP {α β:Type} {T:Rp α} {B:Gp β} {c d:List Value} {x:α} {y:β} {W:List SProp} (h:T.rel Fr.emp c x) (hB:∀ m,Sat W m→B.own d y m):∀ m,Sat W m→(Gp.prod (Gp.pure T) B).own (c++d) (x,y) m:=fun m s=>Gp.own_pure_prod h (hB m s)
theorem Gp.mkW {α β:Type} {A:Gp α} {B:Gp β} {c d:List Value} {x:α} {y:β} {w:SProp} {W:List SProp} (hA:∀ m,w m→A.own c x m) (hB:∀ m,Sat W m→B.own d y m):∀ m,Sat (w::W) m→(Gp.prod A B).own (c++d) (x,y) m :=
 fun _ ⟨k1,k2,dj,s1,s2,o,st⟩=>⟨c,d,rfl,k1,k2,dj,s1,s2,hA _ o,k2,Fr.emp,Fr.disj_symm (Fr.emp_disj _),Fr.sub_refl _,Fr.emp_sub _,hB _ st,trivial⟩
end Go.Sp
end
end
end
end
end
section
/- Texts of this proof, one behind the other. -/
section
/- Texts of this proof. -/
set_option linter.unusedVariables false
namespace Go.Sp
structure Tys where
 u8:TypeId
 int:TypeId
 bytes:TypeId
 dot:TypeId
 recd:TypeId
 leaf:TypeId
 stub:TypeId
 node:TypeId
 prf:TypeId
 root:TypeId
 evd:TypeId
 frm:TypeId
 held:TypeId
def byteOf (z:Int):UInt8:=UInt8.ofNat (z % 256).toNat
theorem wrapB (z:Int):Value.int .u8 (IntKind.u8.wrap z)=byteV (byteOf z):=by
 rw [byteV,wrap_u8_eq];have:((byteOf z).toNat:Int)=z % 256:=by simp [byteOf];omega
 rw [this]
def markT (k i:Int):List UInt8:=[35,byteOf k,byteOf (k.fdiv (2 ^ min (8:Int).toNat IntKind.i64.bits)),byteOf (k.fdiv (2 ^ min (16:Int).toNat IntKind.i64.bits)),47,byteOf i,byteOf (i.fdiv (2 ^ min (8:Int).toNat IntKind.i64.bits)),byteOf (i.fdiv (2 ^ min (16:Int).toNat IntKind.i64.bits))]
@[simp] theorem markT_length (k i:Int):(markT k i).length=8:=rfl
abbrev DotT:Type:=Int × Int × Unit
abbrev DotRp:Rp DotT:=Rp.prod Rp.i64 (Rp.prod Rp.i64 (Rp.unit))
theorem DotRp.open {h:Fr} {cs:List Value} {x:DotT} (r:DotRp.rel h cs x):cs=[.int .i64 x.1,.int .i64 x.2.1]∧InI64 x.1∧InI64 x.2.1:=by
 obtain ⟨c0,d0,rfl,r0,r⟩:=r;obtain ⟨c1,d1,rfl,r1,r⟩:=r;obtain rfl:d1=[]:=r;obtain ⟨rfl,h0⟩:=r0;obtain ⟨rfl,h1⟩:=r1;exact ⟨rfl,h0,h1⟩
theorem DotRp.mk {h:Fr} {x0:Int} {x1:Int} (h0:InI64 x0) (h1:InI64 x1):DotRp.rel h [.int .i64 x0,.int .i64 x1] (x0,x1,()) :=
 ⟨[.int .i64 x0],[.int .i64 x1],rfl,⟨rfl,h0⟩,⟨[.int .i64 x1],[],rfl,⟨rfl,h1⟩,rfl⟩⟩
abbrev RecT:Type:=(List UInt8) × Int × Int × (List DotT) × Bool × (List UInt8) × (List UInt8) × Unit
abbrev RecRp:Rp RecT:=Rp.prod Rp.str (Rp.prod Rp.i64 (Rp.prod Rp.i64 (Rp.prod (Rp.slice DotRp) (Rp.prod Rp.bool (Rp.prod (Rp.slice Rp.u8) (Rp.prod (Rp.slice Rp.u8) (Rp.unit)))))))
theorem RecRp.open {h:Fr} {cs:List Value} {x:RecT} (r:RecRp.rel h cs x):∃ v3 v5 v6,cs=[.string (str x.1),.int .i64 x.2.1,.int .i64 x.2.2.1,v3,.bool x.2.2.2.2.1,v5,v6]∧x.1.length≤9223372036854775807∧InI64 x.2.1∧InI64 x.2.2.1∧Arr DotRp h v3 x.2.2.2.1∧Arr Rp.u8 h v5 x.2.2.2.2.2.1∧Arr Rp.u8 h v6 x.2.2.2.2.2.2.1:=by
 obtain ⟨c0,d0,rfl,r0,r⟩:=r;obtain ⟨c1,d1,rfl,r1,r⟩:=r;obtain ⟨c2,d2,rfl,r2,r⟩:=r;obtain ⟨c3,d3,rfl,r3,r⟩:=r;obtain ⟨c4,d4,rfl,r4,r⟩:=r;obtain ⟨c5,d5,rfl,r5,r⟩:=r;obtain ⟨c6,d6,rfl,r6,r⟩:=r;obtain rfl:d6=[]:=r;obtain ⟨rfl,h0⟩:=r0;obtain ⟨rfl,h1⟩:=r1;obtain ⟨rfl,h2⟩:=r2;obtain ⟨v3,rfl,h3⟩:=r3;obtain rfl:c4=[.bool x.2.2.2.2.1]:=r4;obtain ⟨v5,rfl,h5⟩:=r5;obtain ⟨v6,rfl,h6⟩:=r6;exact ⟨v3,v5,v6,rfl,h0,h1,h2,h3,h5,h6⟩
theorem RecRp.sh {h:Fr} {cs:List Value} {x:RecT} (r:RecRp.rel h cs x):∃ a3 a5 a6 c3 c5 c6,cs=[.string (str x.1),.int .i64 x.2.1,.int .i64 x.2.2.1,.slice a3 x.2.2.2.1.length c3,.bool x.2.2.2.2.1,.slice a5 x.2.2.2.2.2.1.length c5,.slice a6 x.2.2.2.2.2.2.1.length c6]∧x.1.length≤9223372036854775807∧InI64 x.2.1∧InI64 x.2.2.1∧Arr DotRp h (.slice a3 x.2.2.2.1.length c3) x.2.2.2.1∧Arr Rp.u8 h (.slice a5 x.2.2.2.2.2.1.length c5) x.2.2.2.2.2.1∧Arr Rp.u8 h (.slice a6 x.2.2.2.2.2.2.1.length c6) x.2.2.2.2.2.2.1:=by
 obtain ⟨v3,v5,v6,rfl,h0,h1,h2,h3,h5,h6⟩:=RecRp.open r;obtain ⟨a3,c3,rfl⟩:=h3.shape;obtain ⟨a5,c5,rfl⟩:=h5.shape;obtain ⟨a6,c6,rfl⟩:=h6.shape;exact ⟨a3,a5,a6,c3,c5,c6,rfl,h0,h1,h2,h3,h5,h6⟩
theorem RecRp.mk {h:Fr} {x0:List UInt8} {x1:Int} {x2:Int} {x3:List DotT} {v3:Value} {x4:Bool} {x5:List UInt8} {v5:Value} {x6:List UInt8} {v6:Value} (h0:x0.length≤9223372036854775807) (h1:InI64 x1) (h2:InI64 x2) (h3:Arr DotRp h v3 x3) (h5:Arr Rp.u8 h v5 x5) (h6:Arr Rp.u8 h v6 x6):RecRp.rel h [.string (str x0),.int .i64 x1,.int .i64 x2,v3,.bool x4,v5,v6] (x0,x1,x2,x3,x4,x5,x6,()) :=
 ⟨[.string (str x0)],[.int .i64 x1,.int .i64 x2,v3,.bool x4,v5,v6],rfl,⟨rfl,h0⟩,⟨[.int .i64 x1],[.int .i64 x2,v3,.bool x4,v5,v6],rfl,⟨rfl,h1⟩,⟨[.int .i64 x2],[v3,.bool x4,v5,v6],rfl,⟨rfl,h2⟩,⟨[v3],[.bool x4,v5,v6],rfl,⟨v3,rfl,h3⟩,⟨[.bool x4],[v5,v6],rfl,rfl,⟨[v5],[v6],rfl,⟨v5,rfl,h5⟩,⟨[v6],[],rfl,⟨v6,rfl,h6⟩,rfl⟩⟩⟩⟩⟩⟩⟩
abbrev RecG (τ:Tys):Gp RecT:=Gp.prod (Gp.pure Rp.str) (Gp.prod (Gp.pure Rp.i64) (Gp.prod (Gp.pure Rp.i64) (Gp.prod (Gp.row DotRp τ.dot) (Gp.prod (Gp.pure Rp.bool) (Gp.prod (Gp.row Rp.u8 τ.u8) (Gp.prod (Gp.row Rp.u8 τ.u8) (Gp.unit)))))))
theorem RecG.mk {τ:Tys} {m:Fr} {x0:List UInt8} {x1:Int} {x2:Int} {x3:List DotT} {v3:Value} {x4:Bool} {x5:List UInt8} {v5:Value} {x6:List UInt8} {v6:Value} (h0:x0.length≤9223372036854775807) (h1:InI64 x1) (h2:InI64 x2) (s:Sat [OwnP DotRp τ.dot v3 x3,OwnP Rp.u8 τ.u8 v5 x5,OwnP Rp.u8 τ.u8 v6 x6] m):(Gp.prod (Gp.pure Rp.str) (Gp.prod (Gp.pure Rp.i64) (Gp.prod (Gp.pure Rp.i64) (Gp.prod (Gp.row DotRp τ.dot) (Gp.prod (Gp.pure Rp.bool) (Gp.prod (Gp.row Rp.u8 τ.u8) (Gp.prod (Gp.row Rp.u8 τ.u8) (Gp.unit)))))))).own [.string (str x0),.int .i64 x1,.int .i64 x2,v3,.bool x4,v5,v6] (x0,x1,x2,x3,x4,x5,x6,()) m :=
 Gp.mkP (T:=Rp.str) (c:=[.string (str x0)]) ⟨rfl,h0⟩ (Gp.mkP (T:=Rp.i64) (c:=[.int .i64 x1]) ⟨rfl,h1⟩<|Gp.mkP (T:=Rp.i64) (c:=[.int .i64 x2]) ⟨rfl,h2⟩<|Gp.mkW (A:=(Gp.row DotRp τ.dot)) (c:=[v3]) (fun _ o=>⟨_,rfl,o⟩)<|Gp.mkP (T:=Rp.bool) (c:=[.bool x4]) rfl<|Gp.mkW (A:=(Gp.row Rp.u8 τ.u8)) (c:=[v5]) (fun _ o=>⟨_,rfl,o⟩)<|Gp.mkW (A:=(Gp.row Rp.u8 τ.u8)) (c:=[v6]) (fun _ o=>⟨_,rfl,o⟩)<|fun _ _=>rfl) m s
abbrev LeafT:Type:=(List UInt8) × (List RecT) × Unit
abbrev LeafRp:Rp LeafT:=Rp.prod Rp.str (Rp.prod (Rp.slice RecRp) (Rp.unit))
theorem LeafRp.open {h:Fr} {cs:List Value} {x:LeafT} (r:LeafRp.rel h cs x):∃ v1,cs=[.string (str x.1),v1]∧x.1.length≤9223372036854775807∧Arr RecRp h v1 x.2.1:=by
 obtain ⟨c0,d0,rfl,r0,r⟩:=r;obtain ⟨c1,d1,rfl,r1,r⟩:=r;obtain rfl:d1=[]:=r;obtain ⟨rfl,h0⟩:=r0;obtain ⟨v1,rfl,h1⟩:=r1;exact ⟨v1,rfl,h0,h1⟩
theorem LeafRp.sh {h:Fr} {cs:List Value} {x:LeafT} (r:LeafRp.rel h cs x):∃ a1 c1,cs=[.string (str x.1),.slice a1 x.2.1.length c1]∧x.1.length≤9223372036854775807∧Arr RecRp h (.slice a1 x.2.1.length c1) x.2.1:=by
 obtain ⟨v1,rfl,h0,h1⟩:=LeafRp.open r;obtain ⟨a1,c1,rfl⟩:=h1.shape;exact ⟨a1,c1,rfl,h0,h1⟩
abbrev LeafG (τ:Tys):Gp LeafT:=Gp.prod (Gp.pure Rp.str) (Gp.prod (Gp.list (RecG τ) τ.recd) (Gp.unit))
theorem LeafG.mk {τ:Tys} {m:Fr} {x0:List UInt8} {x1:List RecT} {v1:Value} (h0:x0.length≤9223372036854775807) (s:Sat [ListP (RecG τ) τ.recd v1 x1] m):(Gp.prod (Gp.pure Rp.str) (Gp.prod (Gp.list (RecG τ) τ.recd) (Gp.unit))).own [.string (str x0),v1] (x0,x1,()) m :=
 Gp.mkP (T:=Rp.str) (c:=[.string (str x0)]) ⟨rfl,h0⟩ (Gp.mkW (A:=(Gp.list (RecG τ) τ.recd)) (c:=[v1]) (fun _ o=>⟨_,rfl,o⟩)<|fun _ _=>rfl) m s
abbrev StubT:Type:=(List UInt8) × (List UInt8) × Unit
abbrev NodeT:Type:=UInt8 × (List UInt8) × (List UInt8) × (List LeafT) × Unit
abbrev NodeRp:Rp NodeT:=Rp.prod Rp.u8 (Rp.prod (Rp.slice Rp.u8) (Rp.prod (Rp.slice Rp.u8) (Rp.prod (Rp.slice LeafRp) (Rp.unit))))
theorem NodeRp.open {h:Fr} {cs:List Value} {x:NodeT} (r:NodeRp.rel h cs x):∃ v1 v2 v3,cs=[byteV x.1,v1,v2,v3]∧Arr Rp.u8 h v1 x.2.1∧Arr Rp.u8 h v2 x.2.2.1∧Arr LeafRp h v3 x.2.2.2.1:=by
 obtain ⟨c0,d0,rfl,r0,r⟩:=r;obtain ⟨c1,d1,rfl,r1,r⟩:=r;obtain ⟨c2,d2,rfl,r2,r⟩:=r;obtain ⟨c3,d3,rfl,r3,r⟩:=r;obtain rfl:d3=[]:=r;obtain rfl:c0=[byteV x.1]:=r0;obtain ⟨v1,rfl,h1⟩:=r1;obtain ⟨v2,rfl,h2⟩:=r2;obtain ⟨v3,rfl,h3⟩:=r3;exact ⟨v1,v2,v3,rfl,h1,h2,h3⟩
theorem NodeRp.sh {h:Fr} {cs:List Value} {x:NodeT} (r:NodeRp.rel h cs x):∃ a1 a2 a3 c1 c2 c3,cs=[byteV x.1,.slice a1 x.2.1.length c1,.slice a2 x.2.2.1.length c2,.slice a3 x.2.2.2.1.length c3]∧Arr Rp.u8 h (.slice a1 x.2.1.length c1) x.2.1∧Arr Rp.u8 h (.slice a2 x.2.2.1.length c2) x.2.2.1∧Arr LeafRp h (.slice a3 x.2.2.2.1.length c3) x.2.2.2.1:=by
 obtain ⟨v1,v2,v3,rfl,h1,h2,h3⟩:=NodeRp.open r;obtain ⟨a1,c1,rfl⟩:=h1.shape;obtain ⟨a2,c2,rfl⟩:=h2.shape;obtain ⟨a3,c3,rfl⟩:=h3.shape;exact ⟨a1,a2,a3,c1,c2,c3,rfl,h1,h2,h3⟩
theorem NodeRp.mk {h:Fr} {x0:UInt8} {x1:List UInt8} {v1:Value} {x2:List UInt8} {v2:Value} {x3:List LeafT} {v3:Value} (h1:Arr Rp.u8 h v1 x1) (h2:Arr Rp.u8 h v2 x2) (h3:Arr LeafRp h v3 x3):NodeRp.rel h [byteV x0,v1,v2,v3] (x0,x1,x2,x3,()) :=
 ⟨[byteV x0],[v1,v2,v3],rfl,rfl,⟨[v1],[v2,v3],rfl,⟨v1,rfl,h1⟩,⟨[v2],[v3],rfl,⟨v2,rfl,h2⟩,⟨[v3],[],rfl,⟨v3,rfl,h3⟩,rfl⟩⟩⟩⟩
abbrev PrfT:Type:=(List (List UInt8)) × (List StubT) × Unit
abbrev RootT:Type:=Int × Int × Int × (List UInt8) × (List UInt8) × Unit
abbrev EvdT:Type:=RootT × RootT × Unit
abbrev HeldT:Type:=(List LeafT) × (List RootT) × (List EvdT) × (List Int) × Unit
end Go.Sp
end
section
/- Texts of this proof, one behind the other. -/
section
/- Texts of this proof, one behind the other. -/
section
/- Texts of this proof, one behind the other. -/
section
/- Texts of this proof. -/
namespace Go.Sp
abbrev SEnt:=List UInt8 × Value × Nat
theorem str_beq (a b:List UInt8):(str a ==str b)=decide (a=b):=by
 show (ByteArray.beq (str a) (str b))=_
 unfold ByteArray.beq
 by_cases h:a=b
 ·subst h;simp
 ·simp [h,str]
section
variable {ro:Option Nat} {P:Program} {fn:Func} {n:Nat} {R:Ending→World→Prop} {k:List Item} {σ:List (Nat × Value)} {D:List Deferred} {g:Gr} {η ζ θ:List SProp} {ops:Array Oper} {i d:Nat} {ls:List Nat}
 {t tk te:TypeId} {x y z:Operand} {b c:Nat} {l:List SEnt} {key:List UInt8} {w:World}
theorem run_checkKey_str (hk:P.underlying tk=some .string) (e:Bool) (n:Nat):(Instr.checkKey e (n+1) tk (.string (str key))).run P w=.ok () w:=by
 simp only [Instr.checkKey,Sem.run_bind,run_underlying hk,Result.andThen]
 rfl
end
end Go.Sp
end
section
/- Texts of this proof. -/
namespace Go.Sp
section
variable {ro:Option Nat} {P:Program} {fn:Func} {n:Nat} {R:Ending→World→Prop} {k:List Item} {σ:List (Nat × Value)} {D:List Deferred} {g:Gr} {η ζ θ:List SProp} {ops:Array Oper} {i d:Nat} {ls:List Nat}
 {t tk te e:TypeId} {x y z:Operand} {b c:Nat} {l:List SEnt} {w:World}
theorem str_get (xs:List UInt8) (j:Nat):(str xs)[j]?=xs[j]?:=by
 by_cases h:j<xs.length
 ·rw [List.getElem?_eq_getElem h,getElem?_pos (str xs) j (by rw [str_size];exact h)]
  rfl
 ·rw [List.getElem?_eq_none (by omega),getElem?_neg (str xs) j (by rw [str_size];exact h)]
theorem Does.indexS {xs:List UInt8} {kd:IntKind} {zi:Int} {j:Nat} (ht:P.underlying t=some .string) (hx:ev σ x=some (.string (str xs))) (hy:ev σ y=some (.int kd zi)) (hz:zi=(j:Int)) (hj:j<xs.length) :
  Does P (.index t x y) σ g η (byteV xs[j]) η:=.run fun o ρ w ho hk=>by
 subst hz;have h:=str_get xs j;rw [List.getElem?_eq_getElem hj] at h
 simp [execOp,ho,hk x _ hx,hk y _ hy,Instr.index,asIntOf,run_underlying ht,h]
 rfl
theorem Does.idxArr {kd:IntKind} {zi:Int} {j len bo off:Nat} (ht:P.underlying t=some (.array len e)) (he:(P.info? e).map (·.size)=some 1) (hx:ev σ x=some (.pointer (some ⟨bo,off,none⟩))) (hy:ev σ y=some (.int kd zi)) (hz:zi=(j:Int)) (hj:j<len) :
  Does P (.indexAddr t x y) σ g η (.pointer (some ⟨bo,off+j,none⟩)) η:=.run fun o ρ w ho hk=>by
 subst hz
 simp [execOp,ho,hk x _ hx,hk y _ hy,Instr.indexAt,Instr.sureAddr,asIntOf,run_underlying ht,hj,run_sizeOf he,Addr.add]
theorem Does.idxArrA {kd:IntKind} {zi:Int} {j len:Nat} {p:Addr} (ht:P.underlying t=some (.array len e)) (he:(P.info? e).map (·.size)=some 1) (hx:ev σ x=some (.pointer (some p))) (hy:ev σ y=some (.int kd zi)) (hz:zi=(j:Int)) (hj:j<len) :
  Does P (.indexAddr t x y) σ g η (.pointer (some (p.add j))) η:=.run fun o ρ w ho hk=>by
 subst hz
 simp [execOp,ho,hk x _ hx,hk y _ hy,Instr.indexAt,Instr.sureAddr,asIntOf,run_underlying ht,hj,run_sizeOf he]
def setV (cs:List UInt8):List Value:=(List.range 256).map fun i=>.bool (decide (i∈cs.map (·.toNat)))
@[simp] theorem setV_length (cs:List UInt8):(setV cs).length=256:=by simp [setV]
theorem run_equal_mapN {m:Option Nat} (ht:P.underlying t=some (.map tk te)):(Op.equal t (.map m) (.map none)).run P w=.ok m.isNone w:=by
 show (Op.equalIn (9999+1) t (.map m) (.map none)).run P w=.ok m.isNone w
 unfold Op.equalIn;simp only [Sem.run_bind,run_underlying ht,Result.andThen]
 cases m<;>rfl
theorem Does.neqM {m:Option Nat} {u:TypeId} (ht:P.underlying t=some (.map tk te)) (hx:ev σ x=some (.map m)) (hy:ev σ y=some (.map none)):Does P (.binOp .neq t x y u) σ g η (.bool m.isSome) η :=
 .run fun o ρ w ho hk=>by
  simp [execOp,ho,hk x _ hx,hk y _ hy,eqGuard,Go.binOp,run_equal_mapN (w:=w) (m:=m) ht]
  try cases m<;>rfl
end
end Go.Sp
end
end
section
/- Texts of this proof, one behind the other. -/
section
/- Texts of this proof. -/
namespace Go.Sp
abbrev SS:=List (List UInt8 × List UInt8 × Nat)
def sumT (m:SS):Nat:=(m.map fun x=>x.2.1.length).sum
section
variable {ro:Option Nat} {P:Program} {fn:Func} {n:Nat} {R:Ending→World→Prop} {k:List Item} {σ:List (Nat × Value)} {D:List Deferred} {g:Gr} {η ζ θ:List SProp} {ops:Array Oper} {i d:Nat} {ls:List Nat}
 {t tk te:TypeId} {x y z:Operand} {b c:Nat} {m:SS} {key v:List UInt8} {w:World}
end
end Go.Sp
end
section
/- Texts of this proof. -/
namespace Go.Sp
variable {ro:Option Nat} {P:Program} {fn:Func} {n:Nat} {R:Ending→World→Prop} {k:List Item} {σ:List (Nat × Value)} {D:List Deferred} {g:Gr} {η:List SProp}
theorem S.reloop {c:Code} (h:S ro P fn n R (.code c::.inLoop c::k) σ D g η):S ro P fn n R (.inLoop c::k) σ D g η :=
 fun a w hf hd hw=>.step (fun _ _=>stepR_inLoop) (h a w hf hd hw)
section
variable {ops:Array Oper} {l:List Nat} {i d:Nat} {T:TypeId} {x:Operand} {v:Value} {cs:List Value}
end
end Go.Sp
end
end
end
section
/- Texts of this proof. -/
namespace Go.Sp
section
variable {ro:Option Nat} {P:Program} {fn:Func} {n:Nat} {R:Ending→World→Prop} {ops:Array Oper} {k:List Item} {σ:List (Nat × Value)} {D:List Deferred} {g:Gr} {η ζ θ:List SProp} {t e:TypeId} {x y:Operand}
theorem S.frzH {todo:List Item} {B:SProp} (s:Sel η B ζ) (h:∀ g' :Gr,g.h.sub g'.h→(∃ m:Fr,B m∧m.sub g'.h)→(∀ {w:World} {θ:List SProp},Holds w g' θ→Holds w g (B::θ))→S ro P fn n R todo σ D g' ζ):S ro P fn n R todo σ D g η :=
 S.sel s (S.freeze fun m hm hd=>h (g.add m) (Fr.sub_add_left _ _) ⟨m,hm,Fr.sub_add_right hd⟩ fun hw=>hw.thaw hm hd)
theorem OD.last1 {g0:Gr} {T:TypeId} {b i j:Nat} {cs:List Value} {v:Value} (ho:opAtU ops j=some (.store t x y)) (hl:lastOk ops j=true) (hth:∀ w,Holds w g η→Holds w g0 ζ) (ht:flat1 P t=true) (hx:ev σ x=some (.pointer (some ⟨b,i,none⟩))) (hy:ev σ y=some v)
  (h1:v.oneCell' =true) (hs:Sel ζ (obj b T cs) θ) (hc:i<cs.length) (h:S none P fn n R k σ D g0 (obj b T (cs.set i v)::θ)):OD P fn n R ops k D g [j] σ η :=
 .one rfl (.lastU ho rfl hl (fun o ρ w q1 q2 q3=>let ⟨w',a,b⟩:=DoesU.store1 ht hx hy h1 hs hc o ρ w q1 q2 (hth w q3);⟨w',.skip,a,.inl rfl,b⟩) h)
theorem S.fold {todo:List Item} {A:SProp} {bs:List SProp} (hA:∀ m,Sat bs m→A m) (h:S ro P fn n R todo σ D g (A::ζ)):S ro P fn n R todo σ D g (bs++ζ) :=
 S.imp' (η:=bs++ζ) (ζ:=A::ζ) (fun m hm=>by
  obtain ⟨m1,m2,d,s1,s2,x,y⟩:=Sat.split hm;exact ⟨m1,m2,d,s1,s2,hA _ x,y⟩) h
theorem S.open {todo:List Item} {α:Type} {A:SProp} {bs:α→List SProp} (s:Sel η A ζ) (hA:∀ m,A m→∃ x,Sat (bs x) m) (h:∀ x,S ro P fn n R todo σ D g (bs x++ζ)):S ro P fn n R todo σ D g η :=
 S.sel s (S.entail (ζ:=[fun m=>∃ x,Sat (bs x) m]) (fun m hm=>⟨m,Fr.emp,Fr.disj_symm (Fr.emp_disj _),Fr.sub_refl _,Fr.emp_sub _,hA m hm,trivial⟩) (S.exi fun x=>S.entail (fun _ q=>q) (h x)))
theorem S.ownIs {todo:List Item} {α:Type} {T:Rp α} {e:TypeId} {v v' :Value} {xs xs' :List α} (s:Sel η (OwnP T e v xs) ζ) (hv:v=v') (hx:xs=xs') (h:S ro P fn n R todo σ D g (OwnP T e v' xs' ::ζ)):S ro P fn n R todo σ D g η:=by
 subst hv hx;exact S.sel s h
theorem look_app (a b:List (Nat × Value)) (t:Nat):look (a++b) t=match look a t with|some v=>some v|none=>look b t:=by
 induction a with
 |nil=>rfl
 |cons x a ih =>
  cases hq:x.1.beq t
  ·simp only [List.cons_append,look,hq];exact ih
  ·simp only [List.cons_append,look,hq]
theorem Sub.app {a b σ:List (Nat × Value)} (ha:Sub a σ) (hb:Sub b σ):Sub (a++b) σ:=fun t v h=>by
 rw [look_app] at h
 cases hq:look a t with
 |some u=>rw [hq] at h;exact ha t v (by rw [hq];exact h)
 |none=>rw [hq] at h;exact hb t v h
theorem S.regionJ {α:Type} {L:List Nat} {id:Nat} (lv:α→List (Nat × Value)) (σ0:List (Nat × Value)) (η' :α→List SProp) (_:Sub σ0 σ) (hm:P.follows .mixedOrders=true) (hok:orderOk P n ops L=true)
  (h1:∀ kk,(∀ x,S none P fn n R kk (lv x++σ0) D g (η' x))→OD P fn n R ops kk D g L σ η) (h2:∀ x,S none P fn n R k (lv x++σ0) D g (η' x)):S none P fn n R (.code (.region id ops true)::k) σ D g η :=
 S.regionD hm hok (h1 k h2)
theorem S.cut2 {ro:Option Nat} {α:Type} {i0 i1:Item} {kk:List Item} (φ:α→Prop) (lv:α→List (Nat × Value)) (σ0:List (Nat × Value)) (η' :α→List SProp) (_:Sub σ0 σ)
  (h1:(∀ x,φ x→S ro P fn n R kk (lv x++σ0) D g (η' x))→S ro P fn n R (i0::i1::kk) σ D g η) (h2:∀ x,φ x→S ro P fn n R kk (lv x++σ0) D g (η' x)):S ro P fn n R (i0::i1::kk) σ D g η:=h1 h2
theorem DoesE.strBytesO {t2:TypeId} {xs:List UInt8} (ht:P.underlying t=some .string) (ht2:P.underlying t2=some (.slice e)) (he:P.underlying e=some (.int .u8)) (hx:ev σ x=some (.string (str xs))) (hl:xs.length≤9223372036854775807) :
  DoesE P (.convert t t2 x) σ g η fun u η' =>∃ a c,u=.slice a xs.length c∧η' =OwnP Rp.u8 e u xs::η :=
 fun o ρ w ho hk hw=>by
  have hr:=Lib.run_convert_string_bytes (P:=P) w t t2 e (str xs) ht ht2 he;have ho' :(execOp ρ o).run P w=.ok (.value (.slice (some ⟨w.heap.size,0,none⟩) (str xs).size (grownCap w (str xs).size 0 e))) (Lib.bytesWorld w e (str xs)):=by
   simp [execOp,ho,hk x _ hx,hr]
  have hge:=grownCap_ge w (str xs).size 0 e;have hcm:=grownCap_le_maxLen w (str xs).size 0 e (by simpa [maxLen] using hl);rw [str_size] at hge hcm;have hh:Holds (Lib.bytesWorld w e (str xs)) g (blk w.heap.size (.cells (Lib.bytesCells w e (str xs)) e ((Lib.bytesCells w e (str xs)).size,(Lib.bytesCells w e (str xs)).size+1))::η):=by
   have h1:Holds (w.drew.alloc (.cells (Lib.bytesCells w e (str xs)) e)) g (blk w.heap.size (.cells (Lib.bytesCells w e (str xs)) e)::η):=(hw.drewN (w.drawn+1) (Nat.le_add_right _ _)).alloc _;refine h1.setBlock (Lib.bytesWorld_at_new w e (str xs)) ?_ rfl rfl rfl
   intro i hi
   have:w.heap.size≠i:=fun h=>hi h.symm
   simp [Lib.bytesWorld,World.freeze,Array.getElem?_modify,this]
  have hsz:(Lib.bytesCells w e (str xs)).size=grownCap w xs.length 0 e:=by
   simp only [Lib.bytesCells,Array.size_append,Array.size_map,Array.size_replicate,str_size]
   simp [str];omega
  have e1:(xs.map (fun b=>[byteV b])).flatten=xs.map byteV:=by
   clear hx hl hr ho' hge hcm hh hsz
   induction xs with
   |nil=>rfl
   |cons a xs ih=>simp [ih]
  refine ⟨_,_,_,⟨some ⟨w.heap.size,0,none⟩,grownCap w xs.length 0 e,by rw [str_size],rfl⟩,ho',?_⟩;rw [str_size];refine (hh.ownF (k:=1) (m:=xs.length) (cap:=grownCap w xs.length 0 e) (cs:=(xs.map (fun b=>[byteV b])).flatten) (fun j hj h=>by have h1:=h.1;simp only [hsz] at h1;omega) hge (by simpa [maxLen] using hcm) (by rw [hsz];simp) ?_).imp fun _ =>
   Sat.cons_imp (OwnP.of (T:=Rp.u8) (css:=xs.map fun b=>[byteV b]) (all2_map (fun _=>rfl) xs) rfl rfl rfl) fun _ q=>q
  rw [e1];simp only [Lib.bytesCells,Nat.mul_one]
  simp [str,byteV]
theorem ODg.strBytesO {fl:Bool} {i d:Nat} {t2:TypeId} {xs:List UInt8} {l:List Nat} (ho:Fires ops i n σ d (.convert t t2 x)) (hd:hdOk fl ops i l=true) (ht:P.underlying t=some .string) (ht2:P.underlying t2=some (.slice e)) (he:P.underlying e=some (.int .u8)) (hx:ev σ x=some (.string (str xs))) (hl:xs.length≤9223372036854775807)
  (h:∀ a c,OD P fn n R ops k D g l ((d,.slice a xs.length c)::σ) (OwnP Rp.u8 e (.slice a xs.length c) xs::η)):ODx P fn n R ops k D g fl (i::l) σ η :=
 ODg.loudE (K:=fun u η' =>∃ a c,u=.slice a xs.length c∧η' =OwnP Rp.u8 e u xs::η) ho rfl hd
  (fun ζ=>(DoesE.strBytesO (η:=η++ζ) ht ht2 he hx hl).imp fun v η' ⟨a,c,h1,h2⟩=>⟨_,⟨a,c,h1,rfl⟩,h2⟩) (by rintro v _ ⟨a,c,rfl,rfl⟩;exact h a c)
theorem OD.strBytesO {i d:Nat} {t2:TypeId} {xs:List UInt8} {l:List Nat} (ho:Fires ops i n σ d (.convert t t2 x)) (hd:descOk ops [i] l=true) (ht:P.underlying t=some .string) (ht2:P.underlying t2=some (.slice e)) (he:P.underlying e=some (.int .u8)) (hx:ev σ x=some (.string (str xs))) (hl:xs.length≤9223372036854775807)
  (h:∀ a c,OD P fn n R ops k D g l ((d,.slice a xs.length c)::σ) (OwnP Rp.u8 e (.slice a xs.length c) xs::η)):OD P fn n R ops k D g (i::l) σ η:=ODg.strBytesO (fl:=false) ho (by simpa [hdOk] using hd) ht ht2 he hx hl h
theorem ODt.strBytesO {i d:Nat} {t2:TypeId} {xs:List UInt8} {l:List Nat} (ho:Fires ops i n σ d (.convert t t2 x)) (_:true=true) (ht:P.underlying t=some .string) (ht2:P.underlying t2=some (.slice e)) (he:P.underlying e=some (.int .u8)) (hx:ev σ x=some (.string (str xs))) (hl:xs.length≤9223372036854775807)
  (h:∀ a c,OD P fn n R ops k D g l ((d,.slice a xs.length c)::σ) (OwnP Rp.u8 e (.slice a xs.length c) xs::η)):ODx P fn n R ops k D g true (i::l) σ η:=ODg.strBytesO (fl:=true) ho rfl ht ht2 he hx hl h
end
end Go.Sp
end
end
end
end
section
/- Texts of this proof, one behind the other. -/
section
/- Texts of this proof, one behind the other. -/
section
/- Texts of this proof. -/
namespace Go.Sp
theorem EachP.of_sat {β α:Type} {A:β→α→SProp}:∀ {bs:List β} {as:List α} {m:Fr},bs.length=as.length→Sat (List.zipWith A bs as) m→EachP A bs as m
 |[],[],_,_,_=>trivial
 |[],_::_,_,h,_=>by cases h
 |_::_,[],_,h,_=>by cases h
 |b::bs,a::as,m,hl,h=>by
  obtain ⟨h1,h2,d,s1,s2,x,y⟩:=h;exact ⟨h1,h2,d,s1,s2,x,h2,Fr.emp,Fr.disj_symm (Fr.emp_disj _),Fr.sub_refl _,Fr.emp_sub _,EachP.of_sat (by simpa using hl) y,trivial⟩
section
variable {ro:Option Nat} {P:Program} {fn:Func} {n:Nat} {R:Ending→World→Prop} {σ:List (Nat × Value)} {D:List Deferred} {g:Gr} {η ζ:List SProp} {todo:List Item} {ops:Array Oper} {L:List Nat} {k:List Item}
theorem S.foldS {A:SProp} {bs:List SProp} (hb:Sels η bs ζ) (hA:∀ m,Sat bs m→A m) (h:S ro P fn n R todo σ D g (A::ζ)):S ro P fn n R todo σ D g η :=
 S.perm hb.perm (S.fold hA h)
theorem S.eachOf {β α:Type} (A:β→α→SProp) {bs:List β} {ys:List α} (hb:Sels η (List.zipWith A bs ys) ζ) (hl:bs.length=ys.length) (h:S ro P fn n R todo σ D g (EachP A bs ys::ζ)):S ro P fn n R todo σ D g η :=
 S.foldS hb (fun _ z=>EachP.of_sat hl z) h
end
theorem less_eq:∀ x y:List UInt8,Op.bytesLess x y=decide (x<y)
 |x,[]=>by cases x<;>simp [Op.bytesLess]
 |[],_::_=>by simp [Op.bytesLess]
 |a::x,b::y=>by
  rw [Op.bytesLess,less_eq x y];rw [Bool.eq_iff_iff]
  simp [List.cons_lt_cons_iff]
theorem lssS_eq (x y:List UInt8):Op.bytesLess (str x).toList (str y).toList=decide (x<y):=by rw [str_toList,str_toList,less_eq]
theorem S.back {ro:Option Nat} {P:Program} {fn:Func} {n:Nat} {R:Ending→World→Prop} {σ:List (Nat × Value)} {D:List Deferred} {g g' :Gr} {η:List SProp} {todo:List Item} {B:SProp} (hb:∀ {w:World} {θ:List SProp},Holds w g' θ→Holds w g (B::θ)) (h:S ro P fn n R todo σ D g (B::η)):S ro P fn n R todo σ D g' η :=
 fun a w hf hd hw=>h a w hf hd (hb hw)
theorem backR {g g' :Gr} {B:SProp} {Post:Ending→List SProp→Prop} {R:Ending→World→Prop} (hR:∀ e η' w',Post e η' →Holds w' g η' →R e w') (hb:∀ {w:World} {θ:List SProp},Holds w g' θ→Holds w g (B::θ)) :
  ∀ e η' w',Post e η' →Holds w' g' η' →R e w' :=fun e η' w' p h=>hR e η' w' p (hb h).drop
def Rp.comap {α β:Type} (f:α→β) (T:Rp β):Rp α:={ k:=T.k,rel:=fun h cs a=>T.rel h cs (f a),len:=fun h=>T.len h,mono:=fun s h=>T.mono s h,one:=fun h=>T.one h }
section
variable {ro:Option Nat} {P:Program} {fn:Func} {n:Nat} {R:Ending→World→Prop} {ops:Array Oper} {K:List Item} {σ:List (Nat × Value)} {D:List Deferred} {g:Gr} {η:List SProp} {i d:Nat} {l:List Nat} {t e:TypeId} {x y:Operand} {v:Value} {kd:IntKind} {j:Nat} {r:Fr}
theorem idx_doesR {α:Type} {T:Rp α} {xs:List α} (ht:P.underlying t=some (.slice e)) (he:(P.info? e).map (·.size)=some T.k) (hx:ev σ x=some v) {zi:Int} (hy:ev σ y=some (.int kd zi)) (hzi:zi=(j:Int))
  (hs:Arr T r v xs) (hk0:0<T.k) (hm:j<xs.length):∃ p cs,(∀ η,Does P (.indexAddr t x y) σ g η (.pointer (some p)) η)∧At r p cs∧T.rel r cs xs[j]:=by
 subst hzi;obtain ⟨css,ha,hsl⟩:=hs;obtain ⟨a,cap,rfl,h1,h2,h3,h4⟩:=hsl
 cases a with
 |none =>
  have:0<css.flatten.length:=by rw [h3];exact Nat.mul_pos (by omega) hk0
  obtain ⟨p,hp,_⟩:=h4 0 this
  cases hp
 |some a =>
  have hj:j<css.length:=by rw [ha.length];exact hm
  refine ⟨a.add (j*T.k),css[j],fun η=>.run fun o ρ w ho hk=>?_,?_,ha.get j hj hm⟩
  ·have hij:(j:Int)<(xs.length:Int):=by omega
   simp [execOp,ho,hk x _ hx,hk y _ hy,Instr.indexAt,asIntOf,run_underlying ht,hm,run_sizeOf he]
  ·rw [← ha.flat_get j hj]
   intro q hq
   rw [Addr.add_add];have hq' :j*T.k+q<css.flatten.length:=by simp only [List.length_take,List.length_drop] at hq;omega
   obtain ⟨p,hp,hc⟩:=h4 _ hq'
   cases hp
   rw [hc];simp
theorem O.idxR {α:Type} {T:Rp α} {xs:List α} (ho:Fires ops i n σ d (.indexAddr t x y)) (ht:P.underlying t=some (.slice e)) (he:(P.info? e).map (·.size)=some T.k) (hx:ev σ x=some v)
  {zi:Int} (hy:ev σ y=some (.int kd zi)) (hzi:zi=(j:Int)) (hs:Arr T r v xs) (hr:r.sub g.h) (hk0:0<T.k) (hm:j<xs.length)
  (h:∀ p cs,At g.h p cs→T.rel r cs xs[j]→O ro P fn n R ops l K ((d,.pointer (some p))::σ) D g η):O ro P fn n R ops (i::l) K σ D g η:=by
 obtain ⟨p,cs,h1,h2,h3⟩:=idx_doesR (g:=g) ht he hx hy hzi hs hk0 hm;exact O.op ho (h1 η) (h p cs (h2.mono hr) h3)
theorem OD.idxR {α:Type} {T:Rp α} {xs:List α} (ho:Fires ops i n σ d (.indexAddr t x y)) (ht:P.underlying t=some (.slice e)) (he:(P.info? e).map (·.size)=some T.k) (hx:ev σ x=some v)
  {zi:Int} (hy:ev σ y=some (.int kd zi)) (hzi:zi=(j:Int)) (hs:Arr T r v xs) (hr:r.sub g.h) (hk0:0<T.k) (hm:j<xs.length)
  (h:∀ p cs,At g.h p cs→T.rel r cs xs[j]→OD P fn n R ops K D g l ((d,.pointer (some p))::σ) η):OD P fn n R ops K D g (i::l) σ η:=by
 obtain ⟨p,cs,h1,h2,h3⟩:=idx_doesR (g:=g) ht he hx hy hzi hs hk0 hm;exact .quiet ho rfl h1 (h p cs (h2.mono hr) h3)
end
end Go.Sp
end
section
/- Texts of this proof. -/
namespace Go.Sp
theorem pk {η η' :List SProp} {Q:List SProp→Prop} (h:Q η') (hp:Picks η η' :=by repeat (first|exact zpa|exact zpn|(apply zpc;focus (repeat (first|exact zh|apply zt)))|apply zps)):∃ η',Q η' ∧Picks η η' :=⟨η',h,hp⟩
section
variable {ro:Option Nat} {P:Program} {fn:Func} {n:Nat} {R:Ending→World→Prop} {k:List Item} {σ σ' :List (Nat × Value)} {D:List Deferred} {g:Gr} {η ζ:List SProp} {ops:Array Oper} {L l:List Nat} {todo:List Item} {t e:TypeId} {x y:Operand} {v:Value}
theorem S.rt {s:Tmp} {Post:Ending→List SProp→Prop} {η' :List SProp} (hr:fn.results=#[.tmp s]) (hl:look σ s=some v) (hR:∀ e η' w',Post e η' →Holds w' g η' →R e w') (h:Post (.returned v) η')
  (hp:Picks η η' :=by repeat (first|exact zpa|exact zpn|(apply zpc;focus (repeat (first|exact zh|apply zt)))|apply zps)):S none P fn n R (.code .ret::k) σ [] g η :=
 S.ret hr hl fun _ hw=>Holds.end_ hR hw ⟨η',h,hp⟩
theorem S.pw (h:S ro P fn n R todo σ' D g ζ) (hs:Sub σ' σ:=by repeat (first|exact Sub.nil|refine Sub.cons rfl ?_))
  (hp:Picks η ζ:=by repeat (first|exact zpa|exact zpn|(apply zpc;focus (repeat (first|exact zh|apply zt)))|apply zps)):S ro P fn n R todo σ D g η:=S.pk hp (S.weaken hs h)
theorem S.wk (h:S ro P fn n R todo σ' D g η) (hs:Sub σ' σ:=by repeat (first|exact Sub.nil|refine Sub.cons rfl ?_)):S ro P fn n R todo σ D g η:=S.weaken hs h
theorem O.sT {b:Bool} (s:Nat) (hl:look σ s=some (.bool b)) (e:b=true) (h:O ro P fn n R ops L k ((s,.bool true)::σ) D g η):O ro P fn n R ops L k σ D g η:=O.slot s hl (congrArg Value.bool e) h
theorem O.sF {b:Bool} (s:Nat) (hl:look σ s=some (.bool b)) (e:b=false) (h:O ro P fn n R ops L k ((s,.bool false)::σ) D g η):O ro P fn n R ops L k σ D g η:=O.slot s hl (congrArg Value.bool e) h
theorem OD.sT {b:Bool} (s:Nat) (hl:look σ s=some (.bool b)) (e:b=true) (h:OD P fn n R ops k D g L ((s,.bool true)::σ) η):OD P fn n R ops k D g L σ η:=OD.slot s hl (congrArg Value.bool e) h
theorem OD.sF {b:Bool} (s:Nat) (hl:look σ s=some (.bool b)) (e:b=false) (h:OD P fn n R ops k D g L ((s,.bool false)::σ) η):OD P fn n R ops k D g L σ η:=OD.slot s hl (congrArg Value.bool e) h
theorem Does.lo {T:TypeId} {b j:Nat} {cs:List Value} (ht:flat1 P t=true) (hx:ev σ x=some (.pointer (some ⟨b,j,none⟩)):=by exact rfl) (hs:Sel η (obj b T cs) ζ:=by repeat (first|exact zh|apply zt)) (hj:cs[j]?=some v:=by exact rfl):Does P (.load t x) σ g η v η:=.loadObj ht hx hs hj
theorem Does.loA {T:TypeId} {b i:Nat} {cs news:List Value} (ht:∀ w,(isAgg t).run P w=.ok true w) (hsz:(P.info? t).map (·.size)=some news.length:=by kernel_rfl) (hx:ev σ x=some (.pointer (some ⟨b,i,none⟩)):=by exact rfl)
  (hs:Sel η (obj b T cs) ζ:=by repeat (first|exact zh|apply zt)) (hn:(cs.drop i).take news.length=news:=by exact rfl):Does P (.load t x) σ g η (.agg news.toArray) η:=.loadObjAgg ht hsz hx hs hn
theorem O.ia {α:Type} {T:Rp α} {xs:List α} {i d j:Nat} {kd:IntKind} {zi:Int} (ho:Fires ops i n σ d (.indexAddr t x y)) (ht:P.underlying t=some (.slice e)) (he:(P.info? e).map (·.size)=some T.k) (hx:ev σ x=some v) (hy:ev σ y=some (.int kd zi)) (hzi:zi=(j:Int)) (hs:Arr T g.h v xs)
  (hk0:0<T.k:=by decide) (hm:j<xs.length:=by first|omega|(simp;done)|(simp;omega)|decide) (h:∀ p cs,At g.h p cs→T.rel g.h cs xs[j]→O ro P fn n R ops l k ((d,.pointer (some p))::σ) D g η):O ro P fn n R ops (i::l) k σ D g η:=O.idx' ho ht he hx hy hzi hs hk0 hm h
theorem OD.ia {α:Type} {T:Rp α} {xs:List α} {i d j:Nat} {kd:IntKind} {zi:Int} (ho:Fires ops i n σ d (.indexAddr t x y)) (ht:P.underlying t=some (.slice e)) (he:(P.info? e).map (·.size)=some T.k) (hx:ev σ x=some v) (hy:ev σ y=some (.int kd zi)) (hzi:zi=(j:Int)) (hs:Arr T g.h v xs)
  (hk0:0<T.k:=by decide) (hm:j<xs.length:=by first|omega|(simp;done)|(simp;omega)|decide) (h:∀ p cs,At g.h p cs→T.rel g.h cs xs[j]→OD P fn n R ops k D g l ((d,.pointer (some p))::σ) η):OD P fn n R ops k D g (i::l) σ η:=OD.idx' ho ht he hx hy hzi hs hk0 hm h
theorem O.ib {α:Type} {T:Rp α} {xs:List α} {r:Fr} {i d j:Nat} {kd:IntKind} {zi:Int} (ho:Fires ops i n σ d (.indexAddr t x y)) (ht:P.underlying t=some (.slice e)) (he:(P.info? e).map (·.size)=some T.k) (hx:ev σ x=some v) (hy:ev σ y=some (.int kd zi)) (hzi:zi=(j:Int)) (hs:Arr T r v xs) (hr:r.sub g.h)
  (hk0:0<T.k:=by decide) (hm:j<xs.length:=by first|omega|(simp;done)|(simp;omega)|decide) (h:∀ p cs,At g.h p cs→T.rel r cs xs[j]→O ro P fn n R ops l k ((d,.pointer (some p))::σ) D g η):O ro P fn n R ops (i::l) k σ D g η:=O.idxR ho ht he hx hy hzi hs hr hk0 hm h
theorem OD.ib {α:Type} {T:Rp α} {xs:List α} {r:Fr} {i d j:Nat} {kd:IntKind} {zi:Int} (ho:Fires ops i n σ d (.indexAddr t x y)) (ht:P.underlying t=some (.slice e)) (he:(P.info? e).map (·.size)=some T.k) (hx:ev σ x=some v) (hy:ev σ y=some (.int kd zi)) (hzi:zi=(j:Int)) (hs:Arr T r v xs) (hr:r.sub g.h)
  (hk0:0<T.k:=by decide) (hm:j<xs.length:=by first|omega|(simp;done)|(simp;omega)|decide) (h:∀ p cs,At g.h p cs→T.rel r cs xs[j]→OD P fn n R ops k D g l ((d,.pointer (some p))::σ) η):OD P fn n R ops k D g (i::l) σ η:=OD.idxR ho ht he hx hy hzi hs hr hk0 hm h
end
end Go.Sp
end
end
section
/- Texts of this proof. -/
namespace Go.Sp
class CSl (P:Program) (t:TypeId) (e:outParam TypeId):Prop where h:P.underlying t=some (.slice e)
class CStr (P:Program) (t:TypeId):Prop where h:P.underlying t=some .string
class CFl (P:Program) (t:TypeId):Prop where h:flat1 P t=true
class CFo (P:Program) (s f:Nat) (o:outParam Nat):Prop where h:fieldOff P s f=some o
theorem zsl {P:Program} {t e:TypeId} [i:CSl P t e]:P.underlying t=some (.slice e):=i.h
theorem zst {P:Program} {t:TypeId} [i:CStr P t]:P.underlying t=some .string:=i.h
theorem zfl {P:Program} {t:TypeId} [i:CFl P t]:flat1 P t=true:=i.h
theorem zfo {P:Program} {s f o:Nat} [i:CFo P s f o]:fieldOff P s f=some o:=i.h
section
variable {P:Program} {σ:List (Nat × Value)} {g:Gr} {η:List SProp}
theorem Does.len1 {t:TypeId} {x:Operand} {e:TypeId} [CSl P t e] {a:Option Addr} {m c:Nat} (hx:ev σ x=some (.slice a m c)):Does P (.call ⟨.builtin .len,#[x],#[t]⟩) σ g η (.int .i64 (m:Int)) η:=.len (t:=t) rfl zsl hx
theorem Does.loadK {t:TypeId} {x:Operand} {p:Addr} {j:Nat} {cs:List Value} {v:Value} (ht:flat1 P t=true) (hx:ev σ x=some (.pointer (some (p.add j)))) (hp:At g.h p cs) (hv:cs[j]?=some v):Does P (.load t x) σ g η v η:=.loadAt ht hx (hp.drop j) (by rw [List.getElem?_drop];exact hv)
theorem Does.loadKK {t:TypeId} {x:Operand} {p:Addr} {i j:Nat} {cs:List Value} {v:Value} (ht:flat1 P t=true) (hx:ev σ x=some (.pointer (some ((p.add i).add j)))) (hp:At g.h p cs) (hv:cs[i+j]?=some v):Does P (.load t x) σ g η v η:=.loadK ht (p:=p) (j:=i+j) (by rw [hx,Addr.add_add]) hp hv
class CAg (P:Program) (t:TypeId) (k:outParam Nat):Prop where
 h:∀ w,(isAgg t).run P w=.ok true w
 s:(P.info? t).map (·.size)=some k
def nrm {α:Type}:List α→Option (List α)
 |[]=>some []
 |a::l=>(nrm l).map (a::·)
theorem nrm_eq {α:Type}:∀ {l m:List α},nrm l=some m→l=m
 |[],_,h=>by cases h;rfl
 |a::l,m,h=>by
  obtain ⟨q,h1,h2⟩:=Option.map_eq_some_iff.1 h;rw [nrm_eq h1];exact h2
theorem Does.loZ {t:TypeId} {x:Operand} {T:TypeId} {b i K:Nat} {cs news:List Value} {ζ:List SProp} [c:CAg P t K] (hx:ev σ x=some (.pointer (some ⟨b,i,none⟩))) (hs:Sel η (obj b T cs) ζ) (hn:nrm ((cs.drop i).take K)=some news) (hl:news.length=K):Does P (.load t x) σ g η (.agg news.toArray) η :=
 .loadObjAgg c.h (by rw [hl];exact c.s) hx hs (by rw [hl];exact nrm_eq hn)
theorem Does.lenS1 {t:TypeId} {x:Operand} [CStr P t] {s:ByteArray} (hx:ev σ x=some (.string s)):Does P (.call ⟨.builtin .len,#[x],#[t]⟩) σ g η (.int .i64 (s.size:Int)) η:=.lenS (t:=t) rfl zst hx
end
theorem Does.fieldOwn {P:Program} {σ:List (Nat × Value)} {g:Gr} {η ζ:List SProp} {s f off b i:Nat} {x:Operand} {T:TypeId} {cs:List Value} (h:fieldOff P s f=some off) (hx:ev σ x=some (.pointer (some ⟨b,i,none⟩))) (_:Sel η (obj b T cs) ζ):Does P (.fieldAddr s x f) σ g η (.pointer (some ⟨b,i+off,none⟩)) η:=.fieldObj h hx
inductive Steps:Nat→Prop→Prop→Prop
 |z {A:Prop}:Steps 0 A A
 |s {n:Nat} {A B C:Prop} (f:C→A) (k:Steps n B C):Steps (n+1) B A
theorem Steps.run {n:Nat} {A B:Prop} (h:Steps n B A):B→A:=by
 induction h with
 |z=>exact id
 |s f _ ih=>exact fun b=>f (ih b)
theorem zz {A B:Prop} (n:Nat) (h:B) (f:Steps n B A:=by repeat (first|exact Steps.z|(apply Steps.s;focus (first|(with_reducible exact S.seq)|((with_reducible apply O.q 1);exact rfl)|(with_reducible exact O.nil)|((with_reducible apply S.region);exact rfl)|((with_reducible apply OD.q 1);exact rfl)|(with_reducible exact S.skip)|(with_reducible exact S.block)|(with_reducible exact S.inBlock)|((with_reducible apply S.exit);exact rfl)|((with_reducible apply S.condT);exact rfl)|((with_reducible apply S.condF);exact rfl)|(with_reducible exact S.unroll)|(with_reducible exact S.reloop)|(with_reducible exact ODx.nil)|(apply O.op;exact .p rfl;(first|exact Does.len1 rfl|exact Does.lss rfl rfl|exact Does.fieldOwn zfo rfl (by repeat (first|exact zh|apply zt))|exact Does.fieldAddr zfo rfl|exact Does.lo zfl|exact Does.loZ rfl (by repeat (first|exact zh|apply zt)) (by exact rfl) (by exact rfl)|exact Does.loadAt zfl rfl (by assumption) (by exact rfl)|exact Does.loadK zfl rfl (by assumption) (by exact rfl)|exact Does.loadKK zfl rfl (by assumption) (by exact rfl)|exact Does.add rfl rfl (IntWalk.i64_in _ (by omega))|exact Does.not rfl|exact Does.nilCheck rfl|exact Does.eql rfl rfl|exact Does.neq rfl rfl|exact Does.gtr rfl rfl|exact Does.leq rfl rfl|exact Does.geq rfl rfl|exact Does.lenS1 rfl|exact Does.mkFunc rfl rfl))|(apply O.op;exact .g rfl rfl;(first|exact Does.len1 rfl|exact Does.lss rfl rfl|exact Does.fieldOwn zfo rfl (by repeat (first|exact zh|apply zt))|exact Does.fieldAddr zfo rfl|exact Does.lo zfl|exact Does.loZ rfl (by repeat (first|exact zh|apply zt)) (by exact rfl) (by exact rfl)|exact Does.loadAt zfl rfl (by assumption) (by exact rfl)|exact Does.loadK zfl rfl (by assumption) (by exact rfl)|exact Does.loadKK zfl rfl (by assumption) (by exact rfl)|exact Does.add rfl rfl (IntWalk.i64_in _ (by omega))|exact Does.not rfl|exact Does.nilCheck rfl|exact Does.eql rfl rfl|exact Does.neq rfl rfl|exact Does.gtr rfl rfl|exact Does.leq rfl rfl|exact Does.geq rfl rfl|exact Does.lenS1 rfl|exact Does.mkFunc rfl rfl))|(apply O.opU;exact rfl;(first|exact DoesU.store1 zfl rfl rfl (by first|rfl|assumption) (by repeat (first|exact zh|apply zt)) (by first|(simp;done)|(simp [Value.cells];done))|exact DoesU.storeObj (by kernel_rfl) rfl rfl rfl rfl (by repeat (first|exact zh|apply zt)) (by first|(simp;done)|(simp [Value.cells];done))))|(apply ODx.quiet;exact .p rfl;exact rfl;(intro _;first|exact Does.fieldAddr zfo rfl|exact Does.loadAt zfl rfl (by assumption) (by exact rfl)|exact Does.loadK zfl rfl (by assumption) (by exact rfl)|exact Does.loadKK zfl rfl (by assumption) (by exact rfl)|exact Does.len1 rfl|exact Does.lss rfl rfl|exact Does.not rfl|exact Does.nilCheck rfl|exact Does.eql rfl rfl|exact Does.neq rfl rfl|exact Does.gtr rfl rfl|exact Does.leq rfl rfl|exact Does.geq rfl rfl|exact Does.add rfl rfl (IntWalk.i64_in _ (by omega))|exact Does.sub rfl rfl (IntWalk.i64_in _ (by omega))|exact Does.lenS1 rfl))|(apply ODx.quiet;exact .g rfl rfl;exact rfl;(intro _;first|exact Does.fieldAddr zfo rfl|exact Does.loadAt zfl rfl (by assumption) (by exact rfl)|exact Does.loadK zfl rfl (by assumption) (by exact rfl)|exact Does.loadKK zfl rfl (by assumption) (by exact rfl)|exact Does.len1 rfl|exact Does.lss rfl rfl|exact Does.not rfl|exact Does.nilCheck rfl|exact Does.eql rfl rfl|exact Does.neq rfl rfl|exact Does.gtr rfl rfl|exact Does.leq rfl rfl|exact Does.geq rfl rfl|exact Does.add rfl rfl (IntWalk.i64_in _ (by omega))|exact Does.sub rfl rfl (IntWalk.i64_in _ (by omega))|exact Does.lenS1 rfl)))))):A:=f.run h
class Tf (b:Bool) (p q:outParam Prop):Prop where
 t:b=true→p
 f:b=false→q
instance (priority:=high) {p:Prop} [Decidable p]:Tf (decide p) p (¬p):=⟨of_decide_eq_true,of_decide_eq_false⟩
instance (priority:=low) {b:Bool}:Tf b (b=true) (b=false):=⟨id,id⟩
section
variable {ro:Option Nat} {P:Program} {fn:Func} {n:Nat} {R:Ending→World→Prop} {k:List Item} {σ:List (Nat × Value)} {D:List Deferred} {g:Gr} {η ζ:List SProp} {ops:Array Oper} {i d:Nat} {l:List Nat} {x:Operand}
theorem S.cd {c:Operand} {x y:Code} {b:Bool} {p q:Prop} [tf:Tf b p q] (hc:ev σ c=some (.bool b)) (ht:p→S ro P fn n R (.code x::k) σ D g η) (hf:q→S ro P fn n R (.code y::k) σ D g η):S ro P fn n R (.code (.cond c x y)::k) σ D g η :=
 S.condB hc (fun h=>ht (tf.t h)) fun h=>hf (tf.f h)
theorem O.v0 {f:FuncId} {xs:Array Operand} {ts:Array TypeId} {vals:List Value} {V:Value} {first cap:Array Value} (ho:Fires ops i n σ d (.call ⟨.value x,xs,ts⟩)) (hx:ev σ x=some (.func (.func f) first cap)) (hc:callable P f=true)
  (hv:evs σ xs.toList=some vals) {args:Array Value} (hargs:first++vals.toArray++cap=args) (con:Con P f args g.h [] (Ret fun v η=>v=V∧η=[]))
  (h:O ro P fn n R ops l k ((d,V)::σ) D g η):O ro P fn n R ops (i::l) k σ D g η:=O.call0 ho hx hc hv hargs con fun _ _ ⟨e1,e2⟩=>by subst e1 e2;exact h
theorem O.vS {f:FuncId} {xs:Array Operand} {ts:Array TypeId} {vals:List Value} {V:Value} {bs:List SProp} {first cap:Array Value} {A:SProp} (ho:Fires ops i n σ d (.call ⟨.value x,xs,ts⟩)) (hx:ev σ x=some (.func (.func f) first cap)) (hc:callable P f=true)
  (hv:evs σ xs.toList=some vals) {args:Array Value} (hargs:first++vals.toArray++cap=args) (hs:Sel η A ζ) (con:Con P f args g.h [A] (Ret fun v η=>v=V∧η=bs))
  (h:O ro P fn n R ops l k ((d,V)::σ) D g (bs++ζ)):O ro P fn n R ops (i::l) k σ D g η:=O.callS ho hx hc hv hargs hs con fun _ _ ⟨e1,e2⟩=>by subst e1 e2;exact h
theorem OD.v0 {f:FuncId} {xs:Array Operand} {ts:Array TypeId} {vals:List Value} {V:Value} {first cap:Array Value} (ho:Fires ops i n σ d (.call ⟨.value x,xs,ts⟩)) (hd:descOk ops [i] l=true) (hx:ev σ x=some (.func (.func f) first cap)) (hc:callable P f=true)
  (hv:evs σ xs.toList=some vals) {args:Array Value} (hargs:first++vals.toArray++cap=args) (con:Con P f args g.h [] (Ret fun v η=>v=V∧η=[]))
  (h:OD P fn n R ops k D g l ((d,V)::σ) η):OD P fn n R ops k D g (i::l) σ η:=OD.call0 ho hd hx hc hv hargs con fun _ _ ⟨e1,e2⟩=>by subst e1 e2;exact h
variable {t e:TypeId} {y:Operand} {v:Value} {kd:IntKind}
class CSz (P:Program) (e:TypeId) (k:outParam Nat):Prop where h:(P.info? e).map (·.size)=some k
theorem zsz {k:Nat} [i:CSz P e k]:(P.info? e).map (·.size)=some k:=i.h
theorem O.iz {α:Type} {T:Rp α} {xs:List α} {i d j:Nat} {zi:Int} (hs:Arr T g.h v xs) (ho:Fires ops i n σ d (.indexAddr t x y):=by first|exact .p rfl|exact .g rfl rfl) (ht:P.underlying t=some (.slice e):=by exact zsl) (he:(P.info? e).map (·.size)=some T.k:=by exact zsz) (hx:ev σ x=some v:=by exact rfl) (hy:ev σ y=some (.int kd zi):=by exact rfl) (hzi:zi=(j:Int):=by exact rfl)
  (hk0:0<T.k:=by decide) (hm:j<xs.length:=by first|omega|(simp;done)|(simp;omega)|decide) (h:∀ p cs,At g.h p cs→T.rel g.h cs xs[j]→O ro P fn n R ops l k ((d,.pointer (some p))::σ) D g η):O ro P fn n R ops (i::l) k σ D g η:=O.idx' ho ht he hx hy hzi hs hk0 hm h
theorem OD.iz {α:Type} {T:Rp α} {xs:List α} {i d j:Nat} {zi:Int} (hs:Arr T g.h v xs) (ho:Fires ops i n σ d (.indexAddr t x y):=by first|exact .p rfl|exact .g rfl rfl) (ht:P.underlying t=some (.slice e):=by exact zsl) (he:(P.info? e).map (·.size)=some T.k:=by exact zsz) (hx:ev σ x=some v:=by exact rfl) (hy:ev σ y=some (.int kd zi):=by exact rfl) (hzi:zi=(j:Int):=by exact rfl)
  (hk0:0<T.k:=by decide) (hm:j<xs.length:=by first|omega|(simp;done)|(simp;omega)|decide) (h:∀ p cs,At g.h p cs→T.rel g.h cs xs[j]→OD P fn n R ops k D g l ((d,.pointer (some p))::σ) η):OD P fn n R ops k D g (i::l) σ η:=OD.idx' ho ht he hx hy hzi hs hk0 hm h
theorem O.iy {α:Type} {T:Rp α} {xs:List α} {r:Fr} {i d j:Nat} {zi:Int} (hs:Arr T r v xs) (hr:r.sub g.h) (ho:Fires ops i n σ d (.indexAddr t x y):=by first|exact .p rfl|exact .g rfl rfl) (ht:P.underlying t=some (.slice e):=by exact zsl) (he:(P.info? e).map (·.size)=some T.k:=by exact zsz) (hx:ev σ x=some v:=by exact rfl) (hy:ev σ y=some (.int kd zi):=by exact rfl) (hzi:zi=(j:Int):=by exact rfl)
  (hk0:0<T.k:=by decide) (hm:j<xs.length:=by first|omega|(simp;done)|(simp;omega)|decide) (h:∀ p cs,At g.h p cs→T.rel r cs xs[j]→O ro P fn n R ops l k ((d,.pointer (some p))::σ) D g η):O ro P fn n R ops (i::l) k σ D g η:=O.idxR ho ht he hx hy hzi hs hr hk0 hm h
theorem OD.iy {α:Type} {T:Rp α} {xs:List α} {r:Fr} {i d j:Nat} {zi:Int} (hs:Arr T r v xs) (hr:r.sub g.h) (ho:Fires ops i n σ d (.indexAddr t x y):=by first|exact .p rfl|exact .g rfl rfl) (ht:P.underlying t=some (.slice e):=by exact zsl) (he:(P.info? e).map (·.size)=some T.k:=by exact zsz) (hx:ev σ x=some v:=by exact rfl) (hy:ev σ y=some (.int kd zi):=by exact rfl) (hzi:zi=(j:Int):=by exact rfl)
  (hk0:0<T.k:=by decide) (hm:j<xs.length:=by first|omega|(simp;done)|(simp;omega)|decide) (h:∀ p cs,At g.h p cs→T.rel r cs xs[j]→OD P fn n R ops k D g l ((d,.pointer (some p))::σ) η):OD P fn n R ops k D g (i::l) σ η:=OD.idxR ho ht he hx hy hzi hs hr hk0 hm h
theorem zA {α:Type} {T:Rp α} {h:Fr} {v:Value} {xs:List α} (q:Arr T h v xs:=by first|assumption|exact Arr.mono hg (by assumption)|exact Arr.left (by assumption)|exact Arr.left (Arr.mono hg (by assumption))):Arr T h v xs:=q
theorem zq {σ' σ:List (Nat × Value)} (h:Sub σ' σ:=by repeat (first|exact Sub.nil|refine Sub.cons rfl ?_)):Sub σ' σ:=h
theorem Con.o {f:FuncId} {args:Array Value} {r:Fr} {Post:Ending→List SProp→Prop} {c:Code} {vs:List Value} (hf:P.funcs[f]?=some fn) (h:∀ g:Gr,r.sub g.h→∀ R:Ending→World→Prop,(∀ e η' w',Post e η' →Holds w' g η' →R e w')→S none P fn n R [.code c] (slots vs 0) [] g η)
  (ha:args=vs.toArray:=by exact rfl) (hb:fn.body=some c:=by exact rfl) (hn:fn.ntmps=n:=by exact rfl) (hle:Nat.ble vs.length n=true:=by exact rfl):Con P f args r η Post:=Con.of vs ha hf hb hn hle h
theorem O.cs {l:List Nat} {b:Bool} {p q:Prop} (t:Nat) [tf:Tf b p q] (hl:look σ t=some (.bool b)) (ht:p→O ro P fn n R ops l k ((t,.bool true)::σ) D g η) (hf:q→O ro P fn n R ops l k ((t,.bool false)::σ) D g η):O ro P fn n R ops l k σ D g η:=O.caseB t hl (fun h=>ht (tf.t h)) fun h=>hf (tf.f h)
theorem OD.cs {l:List Nat} {b:Bool} {p q:Prop} (t:Nat) [tf:Tf b p q] (hl:look σ t=some (.bool b)) (ht:p→OD P fn n R ops k D g l ((t,.bool true)::σ) η) (hf:q→OD P fn n R ops k D g l ((t,.bool false)::σ) η):OD P fn n R ops k D g l σ η:=OD.caseB t hl (fun h=>ht (tf.t h)) fun h=>hf (tf.f h)
end
theorem zdf {p:Prop} [Decidable p] (h:¬p):decide p=false:=decide_eq_false h
theorem zdt {p:Prop} [Decidable p] (h:p):decide p=true:=decide_eq_true h
theorem zla {α:Type} {as bs:List α}:(as++bs).length=as.length+bs.length:=List.length_append
theorem zfs {a b c:Fr} (h:a.sub b) (k:b.sub c):a.sub c:=Fr.sub_trans h k
theorem zlc {α:Type} {a:α} {as:List α}:(a::as).length=as.length+1:=List.length_cons
theorem zlt {α:Type} {i:Nat} {as:List α}:(as.take i).length=min i as.length:=List.length_take
theorem zln {α:Type}:([]:List α).length=0:=List.length_nil
theorem zfc {α:Type} {l:List α} {L:List (List α)}:(l::L).flatten=l++L.flatten:=List.flatten_cons
theorem zaa {α:Type} (as bs cs:List α):as++bs++cs=as++(bs++cs):=List.append_assoc as bs cs
theorem zgl {α:Type} {as bs:List α} {i:Nat} (h:i<as.length) {h' :i<(as++bs).length}:(as++bs)[i]=as[i]:=List.getElem_append_left h
theorem ztg {α:Type} {l:List α} {i:Nat} (h:i<l.length):l.take (i+1)=l.take i++[l[i]]:=List.take_succ_eq_append_getElem h
theorem zB {p:Prop} (h:p:=by omega):p:=h
theorem zC {p:Prop} (h:p:=by repeat (first|exact zh|apply zt)):p:=h
theorem zD {p:Prop} (h:p:=by kernel_rfl):p:=h
theorem zE {p:Prop} (h:p:=by decide):p:=h
theorem zF {p:Prop} (h:p:=by first|omega|(simp;done)|(simp;omega)|decide):p:=h
theorem zG {p:Prop} (h:p:=by assumption):p:=h
theorem zH {p:Prop} (h:p:=by simp):p:=h
theorem zI {p:Prop} (h:p:=by rfl):p:=h
theorem zJ {p:Prop} (h:p:=by exact decide_eq_false (by omega)):p:=h
theorem zK {p:Prop} (h:p:=by repeat (first|exact zsn|(apply zsc;focus (repeat (first|exact zh|apply zt))))):p:=h
theorem zL {p:Prop} (h:p:=by simp;omega):p:=h
theorem zM {p:Prop} (h:p:=by exact decide_eq_true (by omega)):p:=h
theorem zN {p:Prop} (h:p:=by repeat (first|exact zpa|exact zpn|(apply zpc;focus (repeat (first|exact zh|apply zt)))|apply zps)):p:=h
theorem zO {p:Prop} (h:p:=by first|(simp;done)|(simp [Value.cells];done)):p:=h
theorem zP {p:Prop} (h:p:=by first|omega|(simp;done)|(simp;omega)):p:=h
theorem zQ {p:Prop} (h:p:=by first|rfl|assumption):p:=h
theorem zR {p:Prop} (h:p:=by exact decide_eq_true (by simp;omega)):p:=h
theorem zS {p:Prop} (h:p:=by exact decide_eq_false (by simp;omega)):p:=h
theorem zT {p:Prop} (h:p:=by simp [Value.cells]):p:=h
theorem zU {p:Prop} (h:p:=by first|rfl|omega):p:=h
theorem zV {p:Prop} (h:p:=by first|(simp;done)|(simp;omega)):p:=h
end Go.Sp
end
end
end
