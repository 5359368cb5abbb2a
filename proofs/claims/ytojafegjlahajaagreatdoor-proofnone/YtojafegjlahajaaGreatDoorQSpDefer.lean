/- Texts of this proof, one behind the other. -/
import Derived.Test.YtojafegjlahajaaGreatDoorQSpMore
set_option linter.unusedSectionVars false
section
/- Texts of this proof, one behind the other. -/
section
/- Texts of this proof. -/
namespace Go.Sp
def qval (σ:List (Nat × Value)):Op→Option Value
 |.move x=>ev σ x
 |.assign x=>ev σ x
 |.extract x j=>match ev σ x with|some (.tuple vs)=>vs[j]?|_=>none
 |.pick c x y=>match ev σ c with|some (.bool true)=>ev σ x|some (.bool false)=>ev σ y|_=>none
 |_=>none
theorem qval_does {P:Program} {σ:List (Nat × Value)} {op:Op} {v:Value} (h:qval σ op=some v):isAlloc op=false∧∀ g η,Does P op σ g η v η:=by
 unfold qval at h
 split at h
 ·exact ⟨rfl,fun g η=>.mv h⟩
 ·exact ⟨rfl,fun g η=>.as h⟩
 ·split at h
  ·rename_i e;exact ⟨rfl,fun g η=>.extract e h⟩
  ·cases h
 ·split at h
  ·rename_i e;exact ⟨rfl,fun g η=>.pickT e h⟩
  ·rename_i e;exact ⟨rfl,fun g η=>.pickF e h⟩
  ·cases h
 ·cases h
def qfire (ops:Array Oper) (n i:Nat) (σ:List (Nat × Value)):Option (Nat × Value) :=
 match opAt ops i n with
 |some (d,op)=>match qval σ op with|some v=>some (d,v)|none=>none
 |none=>match opAtG ops i n with
  |some (d,op,t,b)=>match look σ t with
   |some u=>match notB b u with
    |true=>(match isAlloc op with|false=>some (d,undef)|true=>none)
    |false=>match qval σ op with|some v=>some (d,v)|none=>none
   |none=>none
  |none=>none
theorem qfire_spec {ops:Array Oper} {n i d:Nat} {σ:List (Nat × Value)} {v:Value} (h:qfire ops n i σ=some (d,v)) :
  (∃ op,Fires ops i n σ d op∧qval σ op=some v)∨(∃ op t b u,opAtG ops i n=some (d,op,t,b)∧look σ t=some u∧notB b u=true∧isAlloc op=false∧v=undef):=by
 unfold qfire at h
 split at h
 ·rename_i e
  split at h
  ·rename_i e2;cases h;exact .inl ⟨_,.p e,e2⟩
  ·cases h
 ·split at h
  ·rename_i t b e
   split at h
   ·rename_i u e2
    split at h
    ·rename_i e3
     split at h
     ·rename_i e5;cases h;exact .inr ⟨_,_,_,_,e,e2,e3,e5,rfl⟩
     ·cases h
    ·rename_i e3
     split at h
     ·rename_i e4
      cases h
      have hu:u=.bool b:=by
       cases u<;>simp [notB] at e3
       rw [e3]
      subst hu;exact .inl ⟨_,.g e e2,e4⟩
     ·cases h
   ·cases h
  ·cases h
def qrun (ops:Array Oper) (n:Nat):Nat→List Nat→List (Nat × Value)→Option (List Nat × List (Nat × Value))
 |0,l,σ=>some (l,σ)
 |k+1,i::l,σ=>match qfire ops n i σ with|some (d,v)=>qrun ops n k l ((d,v)::σ)|none=>none
 |_+1,[],_=>none
section
variable {ro:Option Nat} {P:Program} {fn:Func} {n:Nat} {R:Ending→World→Prop} {k:List Item} {D:List Deferred} {g:Gr} {η:List SProp} {ops:Array Oper}
theorem O.q:∀ (m:Nat) {l l' :List Nat} {σ σ' :List (Nat × Value)},qrun ops n m l σ=some (l',σ')→O ro P fn n R ops l' k σ' D g η→O ro P fn n R ops l k σ D g η
 |0,_,_,_,_,h,hn=>by cases h;exact hn
 |m+1,[],_,_,_,h,_=>by cases h
 |m+1,i::l,_,σ,_,h,hn=>by
  simp only [qrun] at h
  split at h
  ·rename_i d v e
   have r:=O.q m h hn
   rcases qfire_spec e with ⟨op,h1,h2⟩|⟨op,t,b,u,h1,h2,h3,h4,rfl⟩
   ·exact O.op h1 ((qval_does h2).2 g η) r
   ·exact O.opN h1 h2 h3 r
  ·cases h
theorem OD.q:∀ (m:Nat) {l l' :List Nat} {σ σ' :List (Nat × Value)},qrun ops n m l σ=some (l',σ')→OD P fn n R ops k D g l' σ' η→OD P fn n R ops k D g l σ η
 |0,_,_,_,_,h,hn=>by cases h;exact hn
 |m+1,[],_,_,_,h,_=>by cases h
 |m+1,i::l,_,σ,_,h,hn=>by
  simp only [qrun] at h
  split at h
  ·rename_i d v e
   have r:=OD.q m h hn
   rcases qfire_spec e with ⟨op,h1,h2⟩|⟨op,t,b,u,h1,h2,h3,h4,rfl⟩
   ·exact ODx.quiet h1 (qval_does (P:=P) h2).1 (fun η=>(qval_does h2).2 g η) r
   ·exact ODx.no h1 h4 h2 h3 r
  ·cases h
end
end Go.Sp
end
section
/- Texts of this proof. -/
namespace Go.Sp
def Rp.Pure {α:Type} (T:Rp α):Prop:=∀ (h:Fr) (cs:List Value) (a:α),T.rel h cs a→T.rel Fr.emp cs a
theorem pure_u8:Rp.u8.Pure:=fun _ _ _ h=>h
def OwnP {α:Type} (T:Rp α) (e:TypeId) (v:Value) (xs:List α):SProp:=fun h=>∃ css:List (List Value),All2 (T.rel Fr.emp) css xs∧Own v T.k e xs.length css.flatten h
theorem OwnP.arr {α:Type} {T:Rp α} {e:TypeId} {v:Value} {xs:List α} {h:Fr}:OwnP T e v xs h→Arr T h v xs
 |⟨css,a,b⟩=>⟨css,a.imp fun _ _=>T.mono (Fr.emp_sub _),b.sl⟩
theorem OwnP.shape {α:Type} {T:Rp α} {e:TypeId} {v:Value} {xs:List α} {h:Fr} (x:OwnP T e v xs h):∃ a c,v=.slice a xs.length c:=x.arr.shape
theorem OwnP.of {α:Type} {T:Rp α} {e:TypeId} {v:Value} {xs:List α} {css:List (List Value)} {m:Nat} {cs:List Value} (ha:All2 (T.rel Fr.emp) css xs) (hm:m=xs.length) (hc:cs=css.flatten) {k:Nat} (hk:k=T.k) :
  ∀ h,Own v k e m cs h→OwnP T e v xs h:=by subst hm hc hk;exact fun h x=>⟨css,ha,x⟩
theorem all2_map {α:Type} {T:Rp α} {f:α→List Value} (hf:∀ x,T.rel Fr.emp (f x) x):∀ xs:List α,All2 (T.rel Fr.emp) (xs.map f) xs
 |[]=>trivial
 |x::xs=>⟨hf x,all2_map hf xs⟩
theorem All2.one {α:Type} {T:Rp α} {h:Fr}:∀ {css:List (List Value)} {xs:List α},All2 (T.rel h) css xs→∀ c∈css.flatten,c.oneCell' =true
 |[],[],_,c,hc=>by cases hc
 |_::_,_::_,⟨x,y⟩,c,hc=>by
  simp only [List.flatten_cons,List.mem_append] at hc
  rcases hc with hc|hc
  ·exact T.one x c hc
  ·exact All2.one y c hc
section
variable {ro:Option Nat} {P:Program} {σ σ' :List (Nat × Value)} {g:Gr} {η η' ζ θ:List SProp} {fn:Func} {n:Nat} {R:Ending→World→Prop} {k K:List Item} {D:List Deferred} {ops:Array Oper} {i d:Nat} {l:List Nat} {t e:TypeId} {x y:Operand} {todo:List Item}
theorem DoesE.sel {op:Op} {Q:Value→List SProp→Prop} {A:SProp} (s:Sel η A ζ) (h:DoesE P op σ g (A::ζ) Q):DoesE P op σ g η Q:=fun o ρ w h1 h2 h3=>h o ρ w h1 h2 (h3.sel s)
theorem DoesE.borrow {op:Op} {Q:Value→List SProp→Prop} {A:SProp} (h:∀ m:Fr,A m→g.h.disj m→DoesE P op σ (g.add m) η Q):DoesE P op σ g (A::η) fun v η' =>∃ η₁,Q v η₁∧η' =A::η₁ :=
 fun o ρ w h1 h2 h3=>by
  obtain ⟨m,hm,hd,hw⟩:=h3.freeze;obtain ⟨v,w',η₁,q,r,hw'⟩:=h m hm hd o ρ w h1 h2 hw;exact ⟨v,w',_,⟨η₁,q,rfl⟩,r,hw'.thaw hm hd⟩
theorem DoesE.appendP {α:Type} {T:Rp α} {by_:Nat} {z:List Value} {v u:Value} {xs ys:List α} (hT:T.Pure) (ht:P.underlying t=some (.slice e)) (he:elemIs P e T.k by_ z) (hk:0<T.k) (hx:ev σ x=some v) (hy:ev σ y=some u)
  (hs:Sel η (OwnP T e v xs) ζ) (hu:Arr T g.h u ys) (hb:(xs.length+ys.length)*by_≤140737488355328) (h63:xs.length+ys.length≤9223372036854775807) :
  DoesE P (.call ⟨.builtin .append,#[x,y],#[t,t]⟩) σ g η fun v' η' =>∃ a c,v' =.slice a (xs.length+ys.length) c∧η' =OwnP T e v' (xs++ys)::ζ:=by
 intro o ρ w h1 h2 h3
 have hw:=h3.sel hs;obtain ⟨p1,p2,p3,K,hd,s1,s2,k1,k2,kd,t1,t2,⟨css,ha,hown⟩,hr⟩:=hw;have hw' :Holds w g (Own v T.k e xs.length css.flatten::ζ):=⟨p1,p2,p3,K,hd,s1,s2,k1,k2,kd,t1,t2,hown,hr⟩;obtain ⟨dss,hda,hsl⟩:=hu;obtain ⟨v',w',η',hη,hrun,hh⟩:=DoesE.append (g:=g) ht he hk hx hy .here hsl (All2.one hda) hb h63 o ρ w h1 h2 hw';subst hη;have hh' :Holds w' g (OwnP T e v' (xs++ys)::ζ):=hh.imp fun _=>Sat.cons_imp (OwnP.of (css:=css++dss) (ha.append (hda.imp fun _ _ q=>hT _ _ _ q)) (by simp) (by simp) rfl) fun _ q=>q;obtain ⟨a,c,hv⟩:∃ a c,v' =.slice a (xs.length+ys.length) c:=by
  obtain ⟨_,_,_,_,_,_,_,k1,_,_,_,_,hA,_⟩:=hh';obtain ⟨a,c,h⟩:=hA.shape;exact ⟨a,c,by simpa using h⟩
 exact ⟨v',w',_,⟨a,c,hv,rfl⟩,hrun,hh'⟩
theorem DoesE.appendL {α:Type} {T:Rp α} {by_ m:Nat} {z cs:List Value} {v u:Value} {xs ys:List α} {dss:List (List Value)} (ht:P.underlying t=some (.slice e)) (he:elemIs P e T.k by_ z) (hk:0<T.k) (hx:ev σ x=some v) (hy:ev σ y=some u)
  (hl:Sel η (Own u T.k e m cs) θ) (hs:Sel θ (OwnP T e v xs) ζ) (hm:m=ys.length) (hc:cs=dss.flatten) (hd:All2 (T.rel Fr.emp) dss ys) (hb:(xs.length+ys.length)*by_≤140737488355328) (h63:xs.length+ys.length≤9223372036854775807) :
  DoesE P (.call ⟨.builtin .append,#[x,y],#[t,t]⟩) σ g η fun v' η' =>∃ a c,v' =.slice a (xs.length+ys.length) c∧η' =OwnP T e v' (xs++ys)::ζ:=by
 subst hm hc
 intro o ρ w h1 h2 h3
 obtain ⟨m,hm,hdj,hw⟩:=(h3.sel hl).freeze;have hw:=hw.sel hs;obtain ⟨p1,p2,p3,K,hdd,s1,s2,k1,k2,kd,t1,t2,⟨css,ha,hown⟩,hr⟩:=hw;have hw' :Holds w (g.add m) (Own v T.k e xs.length css.flatten::ζ):=⟨p1,p2,p3,K,hdd,s1,s2,k1,k2,kd,t1,t2,hown,hr⟩;have hsl:Sl (g.add m).h u T.k ys.length dss.flatten:=hm.sl.mono (Fr.sub_add_right hdj);obtain ⟨v',w',η',hη,hrun,hh⟩:=DoesE.append (g:=g.add m) ht he hk hx hy .here hsl (All2.one hd) hb h63 o ρ w h1 h2 hw';subst hη;have hh' :Holds w' (g.add m) (OwnP T e v' (xs++ys)::ζ):=hh.imp fun _=>Sat.cons_imp (OwnP.of (css:=css++dss) (ha.append hd) (by simp) (by simp) rfl) fun _ q=>q;obtain ⟨a,c,hv⟩:∃ a c,v' =.slice a (xs.length+ys.length) c:=by
  obtain ⟨_,_,_,_,_,_,_,k1,_,_,_,_,hA,_⟩:=hh';obtain ⟨a,c,h⟩:=hA.shape;exact ⟨a,c,by simpa using h⟩
 exact ⟨v',w',_,⟨a,c,hv,rfl⟩,hrun,(hh'.thaw hm hdj).drop⟩
def PtrIn (v:Value) (k j:Nat) (p:Addr):Prop:=∃ b m c,v=.slice (some ⟨b,0,none⟩) m c∧p=⟨b,j*k,none⟩
theorem Holds.ownP_block {α:Type} {T:Rp α} {w:World} {v:Value} {xs:List α} (h:Holds w g (OwnP T e v xs::ζ)) (hne:0<xs.length) :
  ∃ b cap cur css,v=.slice (some ⟨b,0,none⟩) xs.length cap∧xs.length≤cap∧cap≤9223372036854775807∧cur.size=cap*T.k∧cur.toList.take (xs.length*T.k)=css.flatten∧All2 (T.rel Fr.emp) css xs∧∃ fz,Thawed fz (cap*T.k)∧Holds w g (blk b (.cells cur e fz)::ζ):=by
 obtain ⟨p1,p2,p3,K,hdd,s1,s2,k1,k2,kd,t1,t2,⟨css,ha,hl,hA⟩,hr⟩:=h
 rcases hA with ⟨_,h0⟩|⟨b,cap,cur,hv,⟨fz,hb,hz⟩,h1,h2,h3,h4⟩
 ·omega
 ·exact ⟨b,cap,cur,css,hv,h1,h2,h3,h4,ha,fz,hz,p1,p2,p3,K,hdd,s1,s2,k1,k2,kd,t1,t2,hb,hr⟩
theorem DoesE.idxOwn {α:Type} {T:Rp α} {v:Value} {xs:List α} {j:Nat} {kd:IntKind} (ht:P.underlying t=some (.slice e)) (he:(P.info? e).map (·.size)=some T.k) (hx:ev σ x=some v) {zi:Int} (hy:ev σ y=some (.int kd zi)) (hzi:zi=(j:Int))
  (hs:Sel η (OwnP T e v xs) ζ) (hj:j<xs.length):DoesE P (.indexAddr t x y) σ g η fun u η' =>∃ p,u=.pointer (some p)∧PtrIn v T.k j p∧η' =η :=
 fun o ρ w ho hk hw=>by
  subst hzi;obtain ⟨b,cap,cur,css,rfl,_⟩:=(hw.sel hs).ownP_block (by omega);refine ⟨.pointer (some ⟨b,j*T.k,none⟩),w,η,⟨_,rfl,⟨b,_,_,rfl,rfl⟩,rfl⟩,?_,hw⟩;have e1:(⟨b,0,none⟩:Addr).add (j*T.k)=⟨b,j*T.k,none⟩:=by rw [add_lit];simp
  simp [execOp,ho,hk x _ hx,hk y _ hy,Instr.indexAt,asIntOf,run_underlying ht,hj,run_sizeOf he,e1]
theorem set_flat {α:Type} {T:Rp α} {h:Fr} {ds:List Value} {a:α} (hd:T.rel h ds a):∀ {css:List (List Value)} {xs:List α} (j:Nat),All2 (T.rel h) css xs→j<xs.length →
  All2 (T.rel h) (css.set j ds) (xs.set j a)∧(css.set j ds).flatten=css.flatten.take (j*T.k)++ds++css.flatten.drop (j*T.k+T.k)
 |[],[],_,_,hj=>by simp at hj
 |c::css,x::xs,0,⟨hc,hr⟩,_=>by
  have hcl:=T.len hc;refine ⟨⟨hd,hr⟩,?_⟩
  simp [hcl]
 |c::css,x::xs,j+1,⟨hc,hr⟩,hj=>by
  have hcl:=T.len hc;obtain ⟨h1,h2⟩:=set_flat hd j hr (by simpa using hj);refine ⟨⟨hc,h1⟩,?_⟩;have e1:(c++css.flatten).take ((j+1)*T.k)=c++css.flatten.take (j*T.k):=by
   rw [Nat.succ_mul,List.take_append,List.take_of_length_le (l:=c) (by omega)]
   congr 2;omega
  have e2:(c++css.flatten).drop ((j+1)*T.k+T.k)=css.flatten.drop (j*T.k+T.k):=by
   rw [Nat.succ_mul,List.drop_append,List.drop_of_length_le (l:=c) (by omega),List.nil_append]
   congr 1;omega
  simp only [List.set_cons_succ,List.flatten_cons,h2];rw [e1,e2]
  simp
theorem DoesU.storeOwn {α:Type} {T:Rp α} {v u:Value} {xs:List α} {j:Nat} {p:Addr} {a:α} (hsz:(P.info? t).map (·.size)=some T.k) (hx:ev σ x=some (.pointer (some p))) (hp:PtrIn v T.k j p) (hy:ev σ y=some u)
  (hs:Sel η (OwnP T e v xs) ζ) (hj:j<xs.length) (hu:T.rel Fr.emp u.cells.toList a):DoesU P (.store t x y) σ g η (OwnP T e v (xs.set j a)::ζ) :=
 fun o ρ w ho hk hw=>by
  obtain ⟨b,cap,cur,css,rfl,h1,h2,h3,h4,ha,fz,hfz,hwb⟩:=(hw.sel hs).ownP_block (by omega);obtain ⟨b',m',c',he,rfl⟩:=hp
  cases he
  have hul:u.cells.toList.length=T.k:=T.len hu;have hjm:j*T.k+T.k≤xs.length*T.k:=by rw [← Nat.succ_mul];exact Nat.mul_le_mul_right _ hj
  have hmc:xs.length*T.k≤cur.size:=by rw [h3];exact Nat.mul_le_mul_right _ h1
  have hst:=run_storeCells_z P b (j*T.k) e hfz u.cells.toList 0 cur w hwb.block (by omega) (by omega) (T.one hu);simp only [Nat.add_zero,hul] at hst;obtain ⟨q1,q2⟩:=set_flat hu j ha hj;refine ⟨w.setRow b (cur.toList.take (j*T.k)++u.cells.toList++cur.toList.drop (j*T.k+T.k)).toArray,?_,?_⟩
  ·have hc:u.cells.size=T.k:=by rw [← hul];simp
   simp only [List.append_assoc] at hst ⊢
   simp [execOp,ho,hk x _ hx,hk y _ hy,Instr.storeAt,Instr.sureAddr,storeVar,run_sizeOf hsz,hc,hst]
  ·refine (hwb.setRow.ownF hfz (k:=T.k) (m:=xs.length) (cap:=cap) (cs:=(css.set j u.cells.toList).flatten) h1 h2 ?_ ?_).imp fun _=>Sat.cons_imp (OwnP.of q1 (by simp) rfl rfl) fun _ q=>q
   ·simp only [List.size_toArray,List.length_append,List.length_take,List.length_drop,Array.length_toList,hul]
    omega
   ·rw [q2,← h4]
    have l1:(cur.toList.take (j*T.k)).length=j*T.k:=by simp;omega
    simp only [List.append_assoc];rw [List.take_append,l1,List.take_take,Nat.min_eq_right (by omega),List.take_append,hul,List.take_take,Nat.min_eq_left (by omega)];rw [List.take_of_length_le (l:=u.cells.toList) (by omega)]
    congr 2
    rw [List.drop_take]
    congr 1
    omega
theorem Does.loadOwn {α:Type} {T:Rp α} {v:Value} {xs:List α} {j:Nat} {p:Addr} {u:Value} (ht:flat1 P t=true) (hx:ev σ x=some (.pointer (some p))) (hp:PtrIn v T.k j p) (hk1:T.k=1)
  (hs:Sel η (OwnP T e v xs) ζ) (hj:j<xs.length) (hu:∀ cs,T.rel Fr.emp cs xs[j]→cs=[u]):Does P (.load t x) σ g η u η :=
 fun o ρ w ho hk hw=>⟨w,by
  obtain ⟨b,cap,cur,css,rfl,h1,h2,h3,h4,ha,fz,hfz,hwb⟩:=(hw.sel hs).ownP_block (by omega);obtain ⟨b',m',c',he,rfl⟩:=hp
  cases he
  have hjc:j<css.length:=by rw [ha.length];exact hj
  have hg:=ha.flat_get j hjc;rw [hu _ (ha.get j hjc hj),← h4,hk1] at hg;have hb0:=hwb.block;have hc:w.cell? ⟨b,j*T.k,none⟩=some u:=by
   rw [hk1];simp only [World.cell?,hb0];have:(List.take 1 (List.drop (j*1) (cur.toList.take (xs.length*1))))[0]?=some u:=by rw [hg];rfl
   rw [List.getElem?_take_of_lt (by omega),List.getElem?_drop,List.getElem?_take_of_lt (by omega)] at this
   simpa using this
  simp [execOp,ho,hk x _ hx,Instr.loadAt,Instr.sureAddr,loadVar,run_isAgg_flat (flat1_flat ht),hc],hw⟩
theorem reps_flat {α:Type} {T:Rp α} {z:List Value} {a:α} (hz:T.rel Fr.emp z a):∀ m:Nat,∃ css,All2 (T.rel Fr.emp) css (List.replicate m a)∧css.flatten=reps z m
 |0=>⟨[],trivial,rfl⟩
 |m+1=>let ⟨css,h1,h2⟩:=reps_flat hz m;⟨z::css,⟨hz,h1⟩,by simp [reps,h2]⟩
theorem DoesE.makeP {α:Type} {T:Rp α} {by_:Nat} {z:List Value} (a:α) {m:Nat} {kx ky:IntKind} {zx zy:Int} (ht:P.underlying t=some (.slice e)) (he:elemIs P e T.k by_ z) (hk:0<T.k) (hz:T.rel Fr.emp z a)
  (hx:ev σ x=some (.int kx zx)) (hy:ev σ y=some (.int ky zy)) (hzx:zx=(m:Int)) (hzy:zy=(m:Int)) (hb:by_*m≤281474976710656) (h63:m≤9223372036854775807) :
  DoesE P (.makeSlice t x y) σ g η fun v η' =>∃ a' c,v=.slice a' m c∧η' =OwnP T e v (List.replicate m a)::η:=by
 subst hzx hzy
 intro o ρ w h1 h2 h3
 obtain ⟨v,w',η',hη,hrun,hw⟩:=DoesE.make (g:=g) (η:=η) ht he hk hx hy hb h63 o ρ w h1 h2 h3;subst hη;obtain ⟨css,q1,q2⟩:=reps_flat hz m;have hh:Holds w' g (OwnP T e v (List.replicate m a)::η):=hw.imp fun _=>Sat.cons_imp (OwnP.of q1 (by simp) q2.symm rfl) fun _ q=>q;obtain ⟨a',c,hv⟩:∃ a' c,v=.slice a' m c:=by
  obtain ⟨_,_,_,_,_,_,_,k1,_,_,_,_,hA,_⟩:=hh;obtain ⟨a',c,h⟩:=hA.shape;exact ⟨a',c,by simpa using h⟩
 exact ⟨v,w',_,⟨a',c,hv,rfl⟩,hrun,hh⟩
theorem DoesE.makeP0 {α:Type} {T:Rp α} {by_:Nat} {z:List Value} {c:Nat} {kx ky:IntKind} {zx zy:Int} (ht:P.underlying t=some (.slice e)) (he:elemIs P e T.k by_ z)
  (hx:ev σ x=some (.int kx zx)) (hy:ev σ y=some (.int ky zy)) (hzx:zx=0) (hzy:zy=(c:Int)) (hb:by_*c≤281474976710656) (h63:c≤9223372036854775807) :
  DoesE P (.makeSlice t x y) σ g η fun v η' =>∃ a' c,v=.slice a' 0 c∧η' =OwnP T e v []::η:=by
 subst hzx hzy
 intro o ρ w h1 h2 h3
 obtain ⟨v,w',η',hη,hrun,hw⟩:=DoesE.make0 (g:=g) (η:=η) ht he hx hy hb h63 o ρ w h1 h2 h3;subst hη;have hh:Holds w' g (OwnP T e v []::η):=hw.imp fun _=>Sat.cons_imp (OwnP.of (T:=T) (xs:=[]) (css:=[]) trivial (by simp) rfl rfl) fun _ q=>q;obtain ⟨a',c,hv⟩:∃ a' c,v=.slice a' 0 c:=by
  obtain ⟨_,_,_,_,_,_,_,k1,_,_,_,_,hA,_⟩:=hh;obtain ⟨a',c,h⟩:=hA.shape;exact ⟨a',c,by simpa using h⟩
 exact ⟨v,w',_,⟨a',c,hv,rfl⟩,hrun,hh⟩
theorem DoesE.litP {α:Type} {T:Rp α} {by_ len:Nat} {z:List Value} {parts:Array (Nat × Operand)} {vs:List Value} {ys:List α} (ht:P.underlying t=some (.slice e)) (he:elemIs P e T.k by_ z) (hk:0<T.k)
  (hp:partsOf σ parts.toList 0=some vs) (hlen:parts.toList.length=len) (hvs:All2 (T.rel Fr.emp) (vs.map (·.cells.toList)) ys) (h24:len*T.k≤16777216) :
  DoesE P (.buildSlice t len parts) σ g η fun v η' =>∃ a c,v=.slice a len c∧η' =OwnP T e v ys::η:=by
 intro o ρ w h1 h2 h3
 have hl:vs.length=len:=by rw [partsOf_length _ _ _ hp,hlen]
 have hyl:ys.length=len:=by rw [← hvs.length,List.length_map,hl]
 have hall:vs.all (fun v=>Nat.beq v.cells.size T.k)=true:=by
  rw [List.all_eq_true]
  intro v hv
  obtain ⟨i,hi,rfl⟩:=List.mem_iff_getElem.1 hv;have:=T.len (hvs.get i (by simpa using hi) (by omega));have hs:vs[i].cells.size=T.k:=by simpa using this
  rw [hs];exact Nat.beq_refl _
 obtain ⟨v,w',η',hη,hrun,hw⟩:=DoesE.lit (g:=g) (η:=η) ht he hk hp hlen hall h24 o ρ w h1 h2 h3;subst hη;have hh:Holds w' g (OwnP T e v ys::η):=hw.imp fun _=>Sat.cons_imp (OwnP.of hvs hyl.symm rfl rfl) fun _ q=>q;obtain ⟨a',c,hv⟩:∃ a' c,v=.slice a' len c:=by
  obtain ⟨_,_,_,_,_,_,_,k1,_,_,_,_,hA,_⟩:=hh;obtain ⟨a',c,h⟩:=hA.shape;exact ⟨a',c,by simpa [hyl] using h⟩
 exact ⟨v,w',_,⟨a',c,hv,rfl⟩,hrun,hh⟩
theorem DoesE.appendO {α:Type} {T:Rp α} {by_:Nat} {z:List Value} {v u:Value} {xs ys:List α} (ht:P.underlying t=some (.slice e)) (he:elemIs P e T.k by_ z) (hk:0<T.k) (hx:ev σ x=some v) (hy:ev σ y=some u)
  (hl:Sel η (OwnP T e u ys) θ) (hs:Sel θ (OwnP T e v xs) ζ) (hb:(xs.length+ys.length)*by_≤140737488355328) (h63:xs.length+ys.length≤9223372036854775807) :
  DoesE P (.call ⟨.builtin .append,#[x,y],#[t,t]⟩) σ g η fun v' η' =>∃ a c,v' =.slice a (xs.length+ys.length) c∧η' =OwnP T e v' (xs++ys)::ζ:=by
 intro o ρ w h1 h2 h3
 obtain ⟨p1,p2,p3,K,hdd,s1,s2,k1,k2,kd,t1,t2,⟨css,ha,hown⟩,hr⟩:=h3.sel hl;have hw' :Holds w g (Own u T.k e ys.length css.flatten::θ):=⟨p1,p2,p3,K,hdd,s1,s2,k1,k2,kd,t1,t2,hown,hr⟩;exact DoesE.appendL (g:=g) ht he hk hx hy .here hs rfl rfl ha hb h63 o ρ w h1 h2 hw'
theorem ownP_nil {α:Type} {T:Rp α}:∀ h,OwnP T e (.slice none 0 0) ([]:List α) h:=fun _=>⟨[],trivial,by simp,.inl ⟨rfl,rfl⟩⟩
theorem S.addNil {α:Type} {T:Rp α} (h:S ro P fn n R todo σ D g (OwnP T e (.slice none 0 0) ([]:List α)::η)):S ro P fn n R todo σ D g η :=
 S.imp (η' :=OwnP T e (.slice none 0 0) ([]:List α)::η) (fun m hm=>⟨Fr.emp,m,Fr.emp_disj _,Fr.emp_sub _,Fr.sub_refl _,ownP_nil _,hm⟩) h
end
end Go.Sp
end
end
section
/- Texts of this proof, one behind the other. -/
section
/- Texts of this proof. -/
namespace Go.Sp
section
variable {ro:Option Nat} {P:Program} {σ σ' :List (Nat × Value)} {g:Gr} {η η' ζ θ:List SProp} {t e:TypeId} {x y:Operand}
theorem Does.sliceNil {k:Nat} {kh:IntKind} {m:Nat} (ht:P.underlying t=some (.slice e)) (he:(P.info? e).map (·.size)=some k) (hx:ev σ x=some (.slice none 0 0)) (hy:ev σ y=some (.int kh (m:Int))) (hm:m=0) :
  Does P (.slice t x none (some y) none) σ g η (.slice none 0 0) η:=by
 subst hm;exact .run fun o ρ w ho hk=>by simp [execOp,ho,hk x _ hx,hk y _ hy,Instr.sliceAt,run_underlying ht,Instr.slice,Instr.sliceBounds,Instr.sliceBound,asIntOf,run_sizeOf he]
theorem DoesE.appendZ0 {α:Type} {T:Rp α} {by_:Nat} {z:List Value} {a:α} {m:Nat} {t2:TypeId} {ki kj:IntKind} (ht:P.underlying t=some (.slice e)) (ht2:P.underlying t2=some (.int ki)) (he:elemIs P e T.k by_ z) (hk:0<T.k) (hz:T.rel Fr.emp z a)
  (hx:ev σ x=some (.slice none 0 0)) {zi:Int} (hy:ev σ y=some (.int kj zi)) (hzi:zi=(m:Int)) (hb:m*by_≤140737488355328) (h63:m≤9223372036854775807) (h0:0<m) :
  DoesE P (.call ⟨.builtin .append,#[x,y],#[t,t2]⟩) σ g η fun v' η' =>∃ a' c,v' =.slice a' m c∧η' =OwnP T e v' (List.replicate m a)::η:=by
 subst hzi
 intro o ρ w ho hkn hw
 obtain ⟨i,zv,hi,hzz,hsz,hby,hzc,hzl⟩:=he;subst hby hzc;have hzs:zv.cells.size=T.k:=by simpa using hzl
 have wl:IntKind.i64.wrap (m:Int)=m:=by rw [IntKind.wrap_i64];omega
 have n1:¬ ((m:Int)<0):=by omega
 have n2:¬ (281474976710656<(m:Int)*(i.bytes:Int)):=by
  have:((m*i.bytes:Nat):Int)≤140737488355328:=by omega
  rw [Int.natCast_mul] at this;omega
 have n3:m≠0:=by omega
 have n4:¬ (9223372036854775807<(m:Int)):=by omega
 have n5:¬ (281474976710656<Builtin.nextslicecap m 0*i.bytes):=by rw [nextslicecap_zero h0];omega
 have n6:m*i.size≠0:=by rw [hsz];exact Nat.ne_of_gt (Nat.mul_pos h0 hk)
 have hge:=grownCap_ge w m 0 e;have hcm:=grownCap_le_maxLen w m 0 e (by simpa [maxLen] using h63);have hrun:(Builtin.append_ #[t,t2] o.type #[.slice none 0 0,.int kj (m:Int)]).run P w=.ok (.slice (some ⟨w.heap.size,0,none⟩) m (grownCap w m 0 e)) (w.drew.alloc (.cells (Builtin.zeroCells zv.cells m++Builtin.zeroCells zv.cells (grownCap w m 0 e - m)) e)):=by
  simp [Builtin.append_,run_underlying ht,run_underlying ht2,sizeOf,typeInfo,zeroValue,hi,hzz,asInt,asIntOf,wl,n1,n2,n3,n4,n5,n6,Question.forced,Builtin.firstCells,newRow,grownCap]
 obtain ⟨css,q1,q2⟩:=reps_flat hz m;have hzr:∀ q,(Builtin.zeroCells zv.cells q).toList=reps zv.cells.toList q:=fun q=>by
  have:=madeCells_reps zv.cells q (by omega);rw [← this];rfl
 refine ⟨_,_,_,⟨_,_,rfl,rfl⟩,run_append_args ho (by rw [hkn x _ hx,hkn y _ hy];exact hrun),?_⟩;refine (((hw.drewN _ (Nat.le_add_right _ _)).alloc _).own (k:=T.k) (m:=m) (cap:=grownCap w m 0 e) (cs:=css.flatten) hge (by simpa [maxLen] using hcm) ?_ ?_).imp fun _=>Sat.cons_imp (OwnP.of q1 (by simp) rfl rfl) fun _ q=>q
 ·simp only [Array.size_append,size_zeroCells,hzs,← Nat.add_mul]
  congr 1;omega
 ·rw [Array.toList_append,hzr,q2,List.take_append]
  rw [List.take_of_length_le (by rw [length_reps];simp [hzs]),length_reps]
  simp [hzs]
theorem DoesE.cutOwn {α:Type} {T:Rp α} {v:Value} {xs:List α} {m:Nat} {kh:IntKind} {zi:Int} (ht:P.underlying t=some (.slice e)) (he:(P.info? e).map (·.size)=some T.k) (hx:ev σ x=some v) (hy:ev σ y=some (.int kh zi)) (hzi:zi=(m:Int))
  (hs:Sel η (OwnP T e v xs) ζ) (hm:m≤xs.length):DoesE P (.slice t x none (some y) none) σ g η fun v' η' =>∃ a c,v' =.slice a m c∧η' =OwnP T e v' (xs.take m)::ζ:=by
 subst hzi
 intro o ρ w ho hk hw
 obtain ⟨p1,p2,p3,K,hdd,s1,s2,k1,k2,kd,t1,t2,⟨css,ha,hl,hA⟩,hr⟩:=hw.sel hs;have hml:m*T.k≤xs.length*T.k:=Nat.mul_le_mul_right _ hm;have hmin:min m xs.length=m:=Nat.min_eq_left hm
 rcases hA with ⟨rfl,h0⟩|⟨b,cap,cur,rfl,hb,h1,h2,h3,h4⟩
 ·have hm0:m=0:=by omega
  subst hm0;refine ⟨.slice none 0 0,w,_,⟨none,0,rfl,rfl⟩,?_,p1,p2,p3,K,hdd,s1,s2,k1,k2,kd,t1,t2,⟨[],trivial,by simp,.inl ⟨rfl,by simp⟩⟩,hr⟩
  simp [execOp,ho,hk x _ hx,hk y _ hy,Instr.sliceAt,run_underlying ht,Instr.slice,Instr.sliceBounds,Instr.sliceBound,asIntOf,run_sizeOf he]
 ·have hmc:m≤cap:=by omega
  refine ⟨.slice (some ⟨b,0,none⟩) m cap,w,_,⟨_,_,rfl,rfl⟩,?_,p1,p2,p3,K,hdd,s1,s2,k1,k2,kd,t1,t2,⟨css.take m,ha.take m,?_,.inr ⟨b,cap,cur,?_,hb,?_,h2,h3,?_⟩⟩,hr⟩
  ·have e1:(⟨b,0,none⟩:Addr).add 0=⟨b,0,none⟩:=rfl
   simp [execOp,ho,hk x _ hx,hk y _ hy,Instr.sliceAt,run_underlying ht,Instr.slice,Instr.sliceBounds,Instr.sliceBound,asIntOf,run_sizeOf he,hmc,e1]
  ·rw [← ha.flat_take,List.length_take,hl,List.length_take,hmin];exact Nat.min_eq_left hml
  ·rw [List.length_take,hmin]
  ·rw [List.length_take,hmin];exact hmc
  ·rw [List.length_take,hmin,← ha.flat_take,← h4,List.take_take,Nat.min_eq_left hml]
end
theorem Sat.tail' {A:SProp} {η:List SProp} {m:Fr}:Sat (A::η) m→Sat η m:=fun ⟨_,_,_,_,s,_,y⟩=>Sat.mono s y
theorem obj_at {b:Nat} {T:TypeId} {cs:List Value} {m:Fr} (h:obj b T cs m):At m ⟨b,0,none⟩ cs:=fun j hj=>by
 rw [add_lit];have:m b=some (.cells cs.toArray T (0,0)):=h
 simp [Fr.cell,this,hj]
theorem obj_atR {b:Nat} {T:TypeId} {cs:List Value} {h m:Fr} (x:obj b T cs m) (hd:h.disj m):At (h.add m) ⟨b,0,none⟩ cs:=(obj_at x).mono (Fr.sub_add_right hd)
theorem At.left {h m:Fr} {p:Addr} {cs:List Value} (x:At h p cs):At (h.add m) p cs:=x.mono (Fr.sub_add_left _ _)
theorem Holds.melt {w:World} {g:Gr} {η:List SProp} {k:Fr} (h:Holds w (g.add k) η) (hd:g.h.disj k):Holds w g η:=(h.thaw (A:=fun _=>True) trivial hd).drop
inductive Picks:List SProp→List SProp→Prop
 |all {η:List SProp}:Picks η η
 |nil {η:List SProp}:Picks η []
 |cons {η ζ bs:List SProp} {A:SProp} (h:Sel η A ζ) (h2:Picks ζ bs):Picks η (A::bs)
 |skip {η bs:List SProp} {A:SProp} (h:Picks η bs):Picks (A::η) bs
theorem Sat.picks {η bs:List SProp} (p:Picks η bs):∀ {h:Fr},Sat η h→Sat bs h:=by
 induction p with
 |all=>exact fun x=>x
 |nil=>exact fun _=>trivial
 |cons s p ih=>exact fun x=>Sat.cons_imp (fun _ y=>y) (fun _=>ih) (Sat.perm s.perm x)
 |skip p ih=>exact fun x=>ih x.tail'
theorem Holds.picks {w:World} {g:Gr} {η bs:List SProp} (h:Holds w g η) (p:Picks η bs):Holds w g bs:=h.imp fun _=>Sat.picks p
theorem Holds.end_ {w:World} {g:Gr} {η:List SProp} {Post:Ending→List SProp→Prop} {R:Ending→World→Prop} {e:Ending} (hR:∀ e η' w',Post e η' →Holds w' g η' →R e w') (hw:Holds w g η) (h:∃ η',Post e η' ∧Picks η η'):R e w :=
 let ⟨_,p,q⟩:=h;hR _ _ w p (hw.picks q)
theorem Holds.fst {w:World} {g:Gr} {A:SProp} {η:List SProp} (h:Holds w g (A::η)):Holds w g [A]:=h.imp fun _=>Sat.cons_imp (fun _ x=>x) fun _ _=>trivial
theorem Holds.fst2 {w:World} {g:Gr} {A B:SProp} {η:List SProp} (h:Holds w g (A::B::η)):Holds w g [A,B]:=h.imp fun _=>Sat.cons_imp (fun _ x=>x) fun _=>Sat.cons_imp (fun _ x=>x) fun _ _=>trivial
theorem Sat.arr {α:Type} {T:Rp α} {e:TypeId} {v:Value} {xs:List α} {η:List SProp} {m:Fr}:Sat (OwnP T e v xs::η) m→Arr T m v xs
 |⟨_,_,_,s,_,x,_⟩=>(OwnP.arr x).mono s
theorem Sat.tail {A:SProp} {η:List SProp} {m:Fr}:Sat (A::η) m→Sat η m
 |⟨_,_,_,_,s,_,y⟩=>y.mono s
theorem Arr.left {α:Type} {T:Rp α} {v:Value} {xs:List α} {h m:Fr} (x:Arr T h v xs):Arr T (h.add m) v xs:=x.mono (Fr.sub_add_left _ _)
theorem Arr.right {α:Type} {T:Rp α} {v:Value} {xs:List α} {h m:Fr} (x:Arr T m v xs) (hd:h.disj m):Arr T (h.add m) v xs:=x.mono (Fr.sub_add_right hd)
theorem melted {g g' :Gr} {Post:Ending→List SProp→Prop} {R:Ending→World→Prop} (hR:∀ e η' w',Post e η' →Holds w' g η' →R e w') (hm:∀ w ζ,Holds w g' ζ→Holds w g ζ) :
  ∀ e η' w',Post e η' →Holds w' g' η' →R e w' :=fun e η' w' p h=>hR e η' w' p (hm w' η' h)
theorem meltTrans {g g' g'' :Gr} (h1:∀ w ζ,Holds w g' ζ→Holds w g ζ) (h2:∀ w ζ,Holds w g'' ζ→Holds w g' ζ):∀ w ζ,Holds w g'' ζ→Holds w g ζ:=fun w ζ h=>h1 w ζ (h2 w ζ h)
theorem meltRefl {g:Gr}:∀ w ζ,Holds w g ζ→Holds w g ζ:=fun _ _ h=>h
section
variable {ro:Option Nat} {P:Program} {fn:Func} {n:Nat} {R:Ending→World→Prop} {k:List Item} {σ:List (Nat × Value)} {D:List Deferred} {g:Gr} {η ζ:List SProp} {ops:Array Oper} {L:List Nat}
theorem S.melt {g' :Gr} {todo:List Item} (hm:∀ w ζ,Holds w g' ζ→Holds w g ζ) (h:S ro P fn n R todo σ D g η):S ro P fn n R todo σ D g' η:=fun a w hf hd hw=>h a w hf hd (hm _ _ hw)
theorem S.pk {todo:List Item} (p:Picks η ζ) (h:S ro P fn n R todo σ D g ζ):S ro P fn n R todo σ D g η:=fun a w hf hd hw=>h a w hf hd (hw.picks p)
theorem S.frz {todo:List Item} {A:SProp} (s:Sel η A ζ) (h:∀ g' :Gr,g.h.sub g'.h→(∀ w ζ,Holds w g' ζ→Holds w g ζ)→(∃ m:Fr,A m∧m.sub g'.h)→S ro P fn n R todo σ D g' ζ):S ro P fn n R todo σ D g η :=
 S.sel s (S.freeze fun m hm hd=>h (g.add m) (Fr.sub_add_left _ _) (fun _ _ x=>x.melt hd) ⟨m,hm,Fr.sub_add_right hd⟩)
theorem O.frz {A:SProp} (s:Sel η A ζ) (h:∀ g' :Gr,g.h.sub g'.h→(∀ w ζ,Holds w g' ζ→Holds w g ζ)→(∃ m:Fr,A m∧m.sub g'.h)→O ro P fn n R ops L k σ D g' ζ):O ro P fn n R ops L k σ D g η :=
 O.sel s (O.freeze fun m hm hd=>h (g.add m) (Fr.sub_add_left _ _) (fun _ _ x=>x.melt hd) ⟨m,hm,Fr.sub_add_right hd⟩)
theorem S.frzA {todo:List Item} {α:Type} {T:Rp α} {e:TypeId} {v:Value} {xs:List α} (s:Sel η (OwnP T e v xs) ζ) (h:∀ g' :Gr,g.h.sub g'.h→(∀ w ζ,Holds w g' ζ→Holds w g ζ)→Arr T g'.h v xs→S ro P fn n R todo σ D g' ζ):S ro P fn n R todo σ D g η :=
 S.frz s fun g' h1 h2 ⟨_,h3,h4⟩=>h g' h1 h2 (h3.arr.mono h4)
theorem O.frzA {α:Type} {T:Rp α} {e:TypeId} {v:Value} {xs:List α} (s:Sel η (OwnP T e v xs) ζ) (h:∀ g' :Gr,g.h.sub g'.h→(∀ w ζ,Holds w g' ζ→Holds w g ζ)→Arr T g'.h v xs→O ro P fn n R ops L k σ D g' ζ):O ro P fn n R ops L k σ D g η :=
 O.frz s fun g' h1 h2 ⟨_,h3,h4⟩=>h g' h1 h2 (h3.arr.mono h4)
theorem O.frzW {α:Type} {T:Rp α} {v:Value} {xs:List α} (s:Sel η (fun m=>Arr T m v xs) ζ) (h:∀ g' :Gr,g.h.sub g'.h→(∀ w ζ,Holds w g' ζ→Holds w g ζ)→Arr T g'.h v xs→O ro P fn n R ops L k σ D g' ζ):O ro P fn n R ops L k σ D g η :=
 O.frz s fun g' h1 h2 ⟨_,h3,h4⟩=>h g' h1 h2 (h3.mono h4)
theorem S.frzO {todo:List Item} {b:Nat} {T:TypeId} {cs:List Value} (s:Sel η (obj b T cs) ζ) (h:∀ g' :Gr,g.h.sub g'.h→(∀ w ζ,Holds w g' ζ→Holds w g ζ)→At g'.h ⟨b,0,none⟩ cs→S ro P fn n R todo σ D g' ζ):S ro P fn n R todo σ D g η :=
 S.frz s fun g' h1 h2 ⟨_,h3,h4⟩=>h g' h1 h2 ((obj_at h3).mono h4)
theorem O.frzO {b:Nat} {T:TypeId} {cs:List Value} (s:Sel η (obj b T cs) ζ) (h:∀ g' :Gr,g.h.sub g'.h→(∀ w ζ,Holds w g' ζ→Holds w g ζ)→At g'.h ⟨b,0,none⟩ cs→O ro P fn n R ops L k σ D g' ζ):O ro P fn n R ops L k σ D g η :=
 O.frz s fun g' h1 h2 ⟨_,h3,h4⟩=>h g' h1 h2 ((obj_at h3).mono h4)
end
theorem zpa {η:List SProp}:Picks η η:=.all
theorem zpn {η:List SProp}:Picks η []:=.nil
theorem zpc {η ζ θ:List SProp} {A:SProp} (h:Sel η A ζ) (k:Picks ζ θ):Picks η (A::θ):=.cons h k
theorem zps {A:SProp} {η θ:List SProp} (k:Picks η θ):Picks (A::η) θ:=.skip k
end Go.Sp
end
section
/- Texts of this proof. -/
namespace Go.Sp
theorem leaves_going {P:Program} {fn:Func} {tmps:Array Value} {R:Ending→World→Prop}:∀ (ds:List Deferred) (u:FrameMode) (w:World) (fr:Frame)
  (cs:List Frame),fr.mode=u→fr.defers=ds→fr.tmps=tmps→P.funcs[fr.fn]?=some fn→fr.kind=.deferred→Lv P fn tmps R ds u w →
  ∃ e w' fr',R e w' ∧Comes P (lone fr cs w) (lone fr' cs w') e∧fr'.kind=.deferred∧fr'.going P w' e:=by
 intro ds
 induction ds with
 |nil =>
  intro u w fr cs hu hd ht hf hk h
  cases u with
  |run=>exact h.elim
  |returning =>
   obtain ⟨v,hr,hR⟩:=h;exact ⟨.returned v,w,fr,hR,Steps.refl P _,hk,hu,hd,fn,hf,ht ▸ hr⟩
  |panicking chain=>exact ⟨.panicked chain,w,fr,h,Steps.refl P _,hk,hu,hd,fn,hf⟩
 |cons d ds ih =>
  intro u w fr cs hu hd ht hf hk h
  obtain ⟨hrun,h⟩:=h
  rcases h with ⟨r,w',htar,htake,hrest⟩|⟨fv,cap,f,args,htar,hinv,hcall⟩
  ·have h1:=step_collected (cs:=cs) (hu ▸ hrun) hd htar htake
   obtain ⟨e',w'',fr',hR',hs',hfn',hl'⟩:=ih u w' { fr with defers:=[]++ds } cs hu rfl ht hf hk hrest;exact ⟨e',w'',fr',hR',Comes.of_steps (.one h1) hs',hfn',hl'⟩
  have h1:=step_defer (cs:=cs) (hu ▸ hrun) hd htar hinv;obtain ⟨e,u',w',frX,hR,hsteps,hkX,hgo⟩:=hcall { fr with defers:=ds } cs hu
  cases e with
  |returned v =>
   have h2:=step_going_returned (c:={ { fr with defers:=ds } with mode:=u' }) (cs:=cs) hkX hgo;obtain ⟨e',w'',fr',hR',hs',hfn',hl'⟩:=ih (settle u') w' { { { fr with defers:=ds } with mode:=u' } with mode:=settle u' } cs rfl rfl ht hf hk hR;exact ⟨e',w'',fr',hR',Comes.of_steps (.head h1 (Steps.trans hsteps (.one h2))) hs',hfn',hl'⟩
  |panicked chain =>
   have h2:=step_going_panicked (c:={ { fr with defers:=ds } with mode:=u' }) (cs:=cs) hgo;obtain ⟨e',w'',fr',hR',hs',hfn',hl'⟩:=ih (raised u' chain) w' { { { fr with defers:=ds } with mode:=u' } with mode:=raised u' chain } cs rfl rfl ht hf hk hR;exact ⟨e',w'',fr',hR',Comes.of_steps (.head h1 (Steps.trans hsteps (.one h2))) hs',hfn',hl'⟩
  |outgrown=>exact ⟨.outgrown,w',fr,hR,Outgrown.of_steps (.one h1) hsteps,hk,trivial⟩
def recVal:FrameMode→Value
 |.panicking ({ v,recovered:=false,goexit:=false }::_)=>v
 |_=>.nilIface
def recMode:FrameMode→FrameMode
 |.panicking ({ v,recovered:=false,goexit:=false }::older)=>.panicking ({ v,recovered:=true }::older)
 |u=>u
def recOps (ops:Array Oper) (n:Nat):Option (Nat × Nat) :=
 match (ops[0]?:Option Oper),(ops[1]?:Option Oper),(ops[2]?:Option Oper) with
 |some ⟨some d,.call ⟨.builtin .recover,_,_⟩,_,_,_,none⟩,some ⟨some e,.assign (.tmp d'),_,_,_,none⟩,none =>
  match Nat.beq d d',Nat.blt d n,Nat.blt e n with|true,true,true=>some (d,e)|_,_,_=>none
 |_,_,_=>none
theorem recoverD_mode (c:Frame) (cs:List Frame):recoverD (c::cs)=none∧recVal c.mode=.nilIface∧recMode c.mode=c.mode∨recoverD (c::cs)=some (recVal c.mode,{ c with mode:=recMode c.mode }::cs):=by
 obtain ⟨fn,tmps,todo,defers,mode,kind,ro⟩:=c;unfold recoverD recVal recMode
 cases mode with
 |run=>left;simp
 |returning=>left;simp
 |panicking ch =>
  cases ch with
  |nil=>left;simp
  |cons p older =>
   obtain ⟨v,r,ge⟩:=p
   cases r<;>cases ge<;>simp
theorem callsD_rec {P:Program} {f:FuncId} {fn:Func} {id:Nat} {ops:Array Oper} {rest:Code} {args:Array Value} {u:FrameMode} {w:World} {R:Ending→World→Prop} {n d e:Nat} (vs:List Value) (ha:args=vs.toArray)
  (hf:P.funcs[f]?=some fn) (hb:fn.body=some (.seq (.region id ops false) rest)) (hn:fn.ntmps=n) (hle:Nat.ble vs.length n=true) (hrec:recOps ops n=some (d,e))
  {g:Gr} {η:List SProp} (hw:Holds w g η)
  (h:S none P fn n R [.code rest] ((e,recVal u)::(d,recVal u)::slots vs 0) [] g η) :
  CallsD P f args u w fun e' u' w' =>u' =recMode u∧R e' w' :=by
 intro c cs hcu
 let b:Frame:={ (default:Frame) with fn:=f,kind:=.deferred }
 subst ha hn
 let a₀:Act:={ tmps:=vs.toArray++Array.replicate (fn.ntmps - vs.toArray.size) undef,defers:=[] }
 have henter:Frame.enter P f vs.toArray .deferred=b.at a₀ [.code (.seq (.region id ops false) rest)]:=by
  simp [Frame.enter,Frame.at,hf,hb,b,a₀]
 have hfit:Fits a₀ fn.ntmps (slots vs 0):=by
  refine ⟨?_,?_⟩
  ·have:vs.length≤fn.ntmps:=Nat.le_of_ble_eq_true hle
   simp [a₀];omega
  ·intro t v hl
   obtain ⟨_,h2⟩:=look_slots vs 0 t v hl;simp only [Nat.sub_zero] at h2;have:t<vs.length:=by
    rcases Nat.lt_or_ge t vs.length with q|q
    ·exact q
    ·rw [List.getElem?_eq_none q] at h2;cases h2
   simp only [a₀];rw [Array.getElem?_append_left (by simpa using this)]
   simpa using h2
 unfold recOps at hrec
 split at hrec
 case h_2=>cases hrec
 rename_i d1 xs1 tt1 ty1 pos1 af1 e1 d1' ty2 pos2 af2 ho0 ho1 ho2
 split at hrec
 case h_2=>cases hrec
 rename_i hq1 hq2 hq3
 cases hrec
 have:=Nat.eq_of_beq_eq_true hq1;subst this;have hsz:ops.size=2:=by
  have h1:=(Array.getElem?_eq_some_iff.1 ho1).1;have h2:=Array.getElem?_eq_none_iff.1 ho2
  omega
 let a₁:Act:=a₀.put (some d) (recVal u)
 let a₂:Act:=a₁.put (some e) (recVal u)
 have hf1:Fits a₁ fn.ntmps ((d,recVal u)::slots vs 0):=hfit.put hq2;have hf2:Fits a₂ fn.ntmps ((e,recVal u)::(d,recVal u)::slots vs 0):=hf1.put hq3;have hops:wpOpsS P ops (fun x a' cs' w' =>x=.normal∧a' =a₂∧cs' ={ c with mode:=recMode u }::cs∧w' =w) [0,1] a₀ (c::cs) w:=by
  have hev:a₁.eval (.tmp d)=recVal u:=hf1.eval (x:=.tmp d) (by simp [ev,look]);have hcm:{ c with mode:=recMode u }=c∨True:=.inr trivial;simp only [wpOpsS,ho0,ho1,Region.wanted,if_true];have hrun0:∀ o:Oper,o.op=.call ⟨.builtin .recover,xs1,tt1⟩→(execOp a₀.eval o).run P w=.ok .recover w:=fun o ho=>by
   simp [execOp,ho,resolve,invoke,builtin]
  rw [hrun0 _ rfl];subst hcu
  rcases recoverD_mode c cs with ⟨q1,q2,q3⟩|q1
  ·simp only [q1]
   have hrun1:∀ o:Oper,o.op=.assign (.tmp d)→(execOp (a₀.put (some d) .nilIface).eval o).run P w=.ok (.value (recVal c.mode)) w:=fun o ho=>by
    rw [← q2];simp [execOp,ho];exact hev
   rw [hrun1 _ rfl];simp only [Oper.upon_value];refine ⟨trivial,?_,?_,trivial⟩
   ·simp only [a₂,a₁,q2]
   ·rw [q3]
  ·simp only [q1]
   have hrun1:∀ o:Oper,o.op=.assign (.tmp d)→(execOp (a₀.put (some d) (recVal c.mode)).eval o).run P w=.ok (.value (recVal c.mode)) w:=fun o ho=>by
    simp [execOp,ho];exact hev
   rw [hrun1 _ rfl];simp only [Oper.upon_value];exact ⟨trivial,rfl,trivial,trivial⟩
 obtain ⟨x,a',cs',w',⟨rfl,rfl,rfl,rfl⟩,harr⟩:=wp_opsS (P:=P) (Q:=fun x a' cs' w' =>x=.normal∧a' =a₂∧cs' ={ c with mode:=recMode u }::cs∧w' =w) [0,1] a₀ (c::cs) w hops b [.code rest] rfl rfl;have hstart:Steps P (lone (Frame.enter P f vs.toArray .deferred) (c::cs) w') (lone (b.at a₂ [.code rest]) ({ c with mode:=recMode u }::cs) w'):=by
  rw [henter];have hr:List.range ops.size=[0,1]:=by rw [hsz];rfl
  exact .head step_seq (.head step_region (by rw [hr];exact harr))
 obtain ⟨x,a',w'',hq,harr2⟩:=h a₂ w' hf2 rfl hw b ({ c with mode:=recMode u }::cs) rfl ⟨fn,hf⟩;have harr2:=(arrivesIn_iff (I:=Machine.fenced P Fence.wide) (fun _ _=>stepsIn_wide) rfl).1 harr2;rw [Frame.atR_of_none rfl] at harr2
 cases x with
 |normal =>
  obtain ⟨e',w3,fr',hR,hs,hk,hg⟩:=leaves_going a'.defers .returning w'' { b.at a' [] with mode:=.returning } ({ c with mode:=recMode u }::cs) rfl rfl rfl hf rfl hq;exact ⟨e',recMode u,w3,fr',⟨rfl,hR⟩,Comes.of_steps (hstart.trans (Steps.trans harr2 (.one step_end))) hs,hk,hg⟩
 |ret =>
  obtain ⟨todo,hs₀⟩:=harr2;obtain ⟨e',w3,fr',hR,hs,hk,hg⟩:=leaves_going a'.defers .returning w'' { b.at a' todo with mode:=.returning } ({ c with mode:=recMode u }::cs) rfl rfl rfl hf rfl hq;exact ⟨e',recMode u,w3,fr',⟨rfl,hR⟩,Comes.of_steps (hstart.trans hs₀) hs,hk,hg⟩
 |panic chain =>
  obtain ⟨todo,hs₀⟩:=harr2;obtain ⟨e',w3,fr',hR,hs,hk,hg⟩:=leaves_going a'.defers (.panicking chain) w'' { b.at a' todo with mode:=.panicking chain } ({ c with mode:=recMode u }::cs) rfl rfl rfl hf rfl hq;exact ⟨e',recMode u,w3,fr',⟨rfl,hR⟩,Comes.of_steps (hstart.trans hs₀) hs,hk,hg⟩
 |exit _=>exact hq.elim
 |goto _=>exact hq.elim
 |outgrown=>exact ⟨.outgrown,recMode u,w'',b,⟨rfl,hq⟩,Outgrown.of_steps hstart (harr2.resolve_left (by simp [b])),rfl,trivial⟩
section
variable {ro:Option Nat} {P:Program} {fn:Func} {n:Nat} {R:Ending→World→Prop} {k:List Item} {σ:List (Nat × Value)} {D:List Deferred} {g:Gr} {η ζ:List SProp}
 {ops:Array Oper} {i d:Nat} {l:List Nat} {f:FuncId} {x y:Operand} {xs:Array Operand} {ts:Array TypeId} {vals:List Value} {K:Value→List SProp→Prop} {t:TypeId}
theorem O.defer {first cap:Array Value} (ho:opAtU ops i=some (.defer ⟨.value x,xs,ts⟩)) (hx:ev σ x=some (.func (.func f) first cap)) (hv:evs σ xs.toList=some vals) {args:Array Value} (hargs:first++vals.toArray=args)
  (h:O none P fn n R ops l k σ (⟨.fn (.func f) cap,args⟩::D) g η):O none P fn n R ops (i::l) k σ D g η:=by
 intro a w hf hd hw
 obtain ⟨o,hi,hdst,hop,hg⟩:=opAtU_spec ho;simp only [wpOpsIn,hi,Region.wanted,hg,if_true];refine ⟨fun _ _=>trivial,?_⟩;have hm:xs.map a.eval=vals.toArray:=by rw [← evs_spec hf.knows hv,← Array.toList_map]
 have hrun:(execOp a.eval o).run P w=.ok (.defer ⟨.fn (.func f) cap,args⟩) w:=by
  simp [execOp,hop,resolve,hf.eval hx,Deferred.ofValue,hm,hargs]
 show o.uponIn (Wd none) 0 P a _ _ ((o.semAt none a.eval).run P w)
 rw [Oper.semAt_none,hrun,Oper.uponIn_defer,hdst];exact h _ w ⟨hf.1,hf.2⟩ (by simp [Act.put,hd]) hw
def DPost (g:Gr) (b:Nat) (R:Ending→World→Prop) (e:Ending) (u:FrameMode) (w:World):Prop :=
 (∃ v,e=.returned v)∧settle u=.returning∧∃ T v η,Holds w g (obj b T [v]::η)∧R (.returned v) w
theorem leavesCell {a:Act} {w:World} {u:FrameMode} {tt b:Nat} {ty:TypeId} {cap args:Array Value} (hr:fn.results=#[.cell tt ty]) (hty:flat1 P ty=true) (hf:Fits a n σ) (hl:look σ tt=some (.pointer (some ⟨b,0,none⟩)))
  (hu:u≠.run) (hc:callable P f=true) (hcall:CallsD P f (args++cap) u w (DPost g b R)):Lv P fn a.tmps R [⟨.fn (.func f) cap,args⟩] u w:=by
 refine Lv.of (leaves_cons hu (by simp [invoke,run_callFunc hc]) (hcall.mono ?_));rintro e u' w' ⟨⟨v,rfl⟩,hs,T,v',η',hw,hR⟩
 show Leaves P fn a.tmps R [] (settle u') w'
 rw [hs];refine ⟨v',?_,hR⟩;have hc0:w'.cell? ⟨b,0,none⟩=some v' :=hw.obj_cell (by rfl);have hl' :=hf.2 tt _ hl
 simp [results,hr,Array.getD_eq_getD_getElem?,hl',asAddr,loadVar,run_isAgg_flat (flat1_flat hty),hc0]
theorem S.retL (h:∀ a w,Fits a n σ→a.defers=D→Holds w g η→Lv P fn a.tmps R D .returning w):S none P fn n R (.code .ret::k) σ D g η:=by
 intro a w hf hd hw
 refine .ret ?_
 show Lv P fn a.tmps R a.defers .returning w
 rw [hd];exact h a w hf hd hw
theorem S.retCell {tt b:Nat} {ty T:TypeId} {v:Value} (hr:fn.results=#[.cell tt ty]) (hty:flat1 P ty=true) (hl:look σ tt=some (.pointer (some ⟨b,0,none⟩))) (hs:Sel η (obj b T [v]) ζ)
  (h:∀ w,Holds w g (obj b T [v]::ζ)→R (.returned v) w):S none P fn n R (.code .ret::k) σ [] g η:=by
 refine S.retL fun a w hf hd hw=>?_;have hw' :=hw.sel hs;refine ⟨v,?_,h w hw'⟩;have hc0:w.cell? ⟨b,0,none⟩=some v:=hw'.obj_cell (by rfl);have hl' :=hf.2 tt _ hl
 simp [results,hr,Array.getD_eq_getD_getElem?,hl',asAddr,loadVar,run_isAgg_flat (flat1_flat hty),hc0]
theorem O.callPD {first cap:Array Value} {X:List PanicEntry→List SProp→Prop} (ho:Fires ops i n σ d (.call ⟨.value x,xs,ts⟩)) (hx:ev σ x=some (.func (.func f) first cap)) (hc:callable P f=true)
  (hv:evs σ xs.toList=some vals) {args:Array Value} (hargs:first++vals.toArray++cap=args) (con:Con P f args g.h η (RetP K X))
  (hp:∀ a ch η' w,Fits a n σ→X ch η' →Holds w g (η' ++ζ)→Lv P fn a.tmps R D (.panicking ch) w)
  (h:∀ v η',K v η' →O none P fn n R ops l k ((d,v)::σ) D g (η' ++ζ)):O none P fn n R ops (i::l) k σ D g (η++ζ):=by
 intro a w hf hd hw
 obtain ⟨o,hi,hdst,hop,hg,hb⟩:=ho.spec;have hm:xs.map a.eval=vals.toArray:=by rw [← evs_spec hf.knows hv,← Array.toList_map]
 refine O.fire hi (hg a hf) (by rw [hop];intro c hc;cases hc) (run_call hop (hf.knows x _ hx) hc w) ?_;rw [Oper.uponIn_enter,hm,hargs];refine calls_wd ?_;refine (con.frame (ζ:=ζ) g (Fr.sub_refl _) w hw).mono fun e w' hh=>?_;obtain ⟨η',⟨η₁,hq,rfl⟩,hw'⟩:=hh
 cases e with
 |returned v =>
  show wpOpsIn (Wd none) 0 P ops _ l (a.put o.dst v) w'
  rw [hdst];exact h v η₁ hq _ _ (hf.put hb) hd hw'
 |panicked ch =>
  show Lv P fn a.tmps R a.defers (.panicking ch) w'
  rw [hd];exact hp a ch η₁ w' hf hq hw'
 |outgrown=>exact hq.elim
theorem O.callPS {first cap:Array Value} {X:List PanicEntry→List SProp→Prop} {A:SProp} (ho:Fires ops i n σ d (.call ⟨.value x,xs,ts⟩)) (hx:ev σ x=some (.func (.func f) first cap)) (hc:callable P f=true)
  (hv:evs σ xs.toList=some vals) {args:Array Value} (hargs:first++vals.toArray++cap=args) (hs:Sel η A ζ) (con:Con P f args g.h [A] (RetP K X))
  (hp:∀ ch η' w,X ch η' →Holds w g (η' ++ζ)→R (.panicked ch) w)
  (h:∀ v η',K v η' →O ro P fn n R ops l k ((d,v)::σ) [] g (η' ++ζ)):O ro P fn n R ops (i::l) k σ [] g η :=
 fun a w hf hd hw=>O.callP (η:=[A]) (ζ:=ζ) ho hx hc hv hargs con hp h a w hf hd (hw.sel hs)
theorem O.callP0 {first cap:Array Value} {X:List PanicEntry→List SProp→Prop} (ho:Fires ops i n σ d (.call ⟨.value x,xs,ts⟩)) (hx:ev σ x=some (.func (.func f) first cap)) (hc:callable P f=true)
  (hv:evs σ xs.toList=some vals) {args:Array Value} (hargs:first++vals.toArray++cap=args) (con:Con P f args g.h [] (RetP K X))
  (hp:∀ ch η' w,X ch η' →Holds w g (η' ++η)→R (.panicked ch) w)
  (h:∀ v η',K v η' →O ro P fn n R ops l k ((d,v)::σ) [] g (η' ++η)):O ro P fn n R ops (i::l) k σ [] g η :=
 O.callP (η:=[]) (ζ:=η) ho hx hc hv hargs con hp h
theorem O.callPSD {first cap:Array Value} {X:List PanicEntry→List SProp→Prop} {A:SProp} (ho:Fires ops i n σ d (.call ⟨.value x,xs,ts⟩)) (hx:ev σ x=some (.func (.func f) first cap)) (hc:callable P f=true)
  (hv:evs σ xs.toList=some vals) {args:Array Value} (hargs:first++vals.toArray++cap=args) (hs:Sel η A ζ) (con:Con P f args g.h [A] (RetP K X))
  (hp:∀ a ch η' w,Fits a n σ→X ch η' →Holds w g (η' ++ζ)→Lv P fn a.tmps R D (.panicking ch) w)
  (h:∀ v η',K v η' →O none P fn n R ops l k ((d,v)::σ) D g (η' ++ζ)):O none P fn n R ops (i::l) k σ D g η :=
 fun a w hf hd hw=>O.callPD (η:=[A]) (ζ:=ζ) ho hx hc hv hargs con hp h a w hf hd (hw.sel hs)
theorem O.callP0D {first cap:Array Value} {X:List PanicEntry→List SProp→Prop} (ho:Fires ops i n σ d (.call ⟨.value x,xs,ts⟩)) (hx:ev σ x=some (.func (.func f) first cap)) (hc:callable P f=true)
  (hv:evs σ xs.toList=some vals) {args:Array Value} (hargs:first++vals.toArray++cap=args) (con:Con P f args g.h [] (RetP K X))
  (hp:∀ a ch η' w,Fits a n σ→X ch η' →Holds w g (η' ++η)→Lv P fn a.tmps R D (.panicking ch) w)
  (h:∀ v η',K v η' →O none P fn n R ops l k ((d,v)::σ) D g (η' ++η)):O none P fn n R ops (i::l) k σ D g η :=
 O.callPD (η:=[]) (ζ:=η) ho hx hc hv hargs con hp h
theorem OD.callPS {first cap:Array Value} {X:List PanicEntry→List SProp→Prop} {A:SProp} (ho:Fires ops i n σ d (.call ⟨.value x,xs,ts⟩)) (hd:descOk ops [i] l=true) (hx:ev σ x=some (.func (.func f) first cap)) (hc:callable P f=true)
  (hv:evs σ xs.toList=some vals) {args:Array Value} (hargs:first++vals.toArray++cap=args) (hs:Sel η A ζ) (con:Con P f args g.h [A] (RetP K X))
  (hp:∀ ch η' w,X ch η' →Holds w g (η' ++ζ)→R (.panicked ch) w)
  (h:∀ v η',K v η' →OD P fn n R ops k [] g l ((d,v)::σ) (η' ++ζ)):OD P fn n R ops k [] g (i::l) σ η :=
 OD.perm hs.perm (OD.callT (η:=[A]) (ζ:=ζ) ho hd hx hc hv hargs con (fun _ ch η' w hX hW=>hp ch η' w hX hW) h)
theorem OD.callP0 {first cap:Array Value} {X:List PanicEntry→List SProp→Prop} (ho:Fires ops i n σ d (.call ⟨.value x,xs,ts⟩)) (hd:descOk ops [i] l=true) (hx:ev σ x=some (.func (.func f) first cap)) (hc:callable P f=true)
  (hv:evs σ xs.toList=some vals) {args:Array Value} (hargs:first++vals.toArray++cap=args) (con:Con P f args g.h [] (RetP K X))
  (hp:∀ ch η' w,X ch η' →Holds w g (η' ++η)→R (.panicked ch) w)
  (h:∀ v η',K v η' →OD P fn n R ops k [] g l ((d,v)::σ) (η' ++η)):OD P fn n R ops k [] g (i::l) σ η :=
 OD.callT (η:=[]) (ζ:=η) ho hd hx hc hv hargs con (fun _ ch η' w hX hW=>hp ch η' w hX hW) h
theorem run_equal_iface_nil {ms:Array (String × TypeId)} {u:TypeId} {v:Value} (ht:P.underlying t=some (.interface ms)) (w:World):(Op.equal t (.iface u v) .nilIface).run P w=.ok false w:=by
 show (Op.equalIn (9999+1) t (.iface u v) .nilIface).run P w=_
 rw [Op.equalIn];simp [run_underlying ht]
theorem run_equal_nil_iface {ms:Array (String × TypeId)} (ht:P.underlying t=some (.interface ms)) (w:World):(Op.equal t .nilIface .nilIface).run P w=.ok true w:=by
 show (Op.equalIn (9999+1) t .nilIface .nilIface).run P w=_
 rw [Op.equalIn];simp [run_underlying ht]
theorem Does.neqIV {u:TypeId} {ms:Array (String × TypeId)} {v:Value} {tv:TypeId} (ht:P.underlying t=some (.interface ms)) (hx:ev σ x=some (.iface tv v)):Does P (.binOp .neq t x (.const .nilIface) u) σ g η (.bool true) η :=
 .run fun o ρ w ho hk=>by simp [execOp,ho,hk x _ hx,hk (.const .nilIface) _ rfl,eqGuard,Go.binOp,run_equal_iface_nil ht]
theorem Does.neqIN {u:TypeId} {ms:Array (String × TypeId)} (ht:P.underlying t=some (.interface ms)) (hx:ev σ x=some .nilIface):Does P (.binOp .neq t x (.const .nilIface) u) σ g η (.bool false) η :=
 .run fun o ρ w ho hk=>by simp [execOp,ho,hk x _ hx,hk (.const .nilIface) _ rfl,eqGuard,Go.binOp,run_equal_nil_iface ht]
theorem Does.assertYes {ti ta:TypeId} {v:Value} {dd:TypeDesc} (ht:P.underlying ta=some dd) (hx:ev σ x=some (.iface ta v)) (hn:notIface dd=true:=by rfl):Does P (.typeAssert x ti ta true) σ g η (.tuple #[v,.bool true]) η :=
 .run fun o ρ w ho hk=>by
  simp only [execOp,ho,hk x _ hx,Instr.typeAssert,Sem.run_bind,run_underlying ht,Result.andThen_ok]
  cases dd<;>first|(simp;done)|exact Bool.noConfusion hn
end
end Go.Sp
end
end
