/- Texts of this proof, one behind the other. -/
import Derived.Test.YtojafegjlahajaaGreatDoorQSpMore
section
/- Texts of this proof. -/
namespace Go.Sp
def qval (σ:List (Nat × Value)):Op→Option Value
 |.move x=>ev σ x
 |.assign x=>ev σ x
 |.extract x j=>match ev σ x with|some (.tuple vs)=>vs[j]?|_=>none
 |.pick c x y=>match ev σ c with|some (.bool true)=>ev σ x|some (.bool false)=>ev σ y|_=>none
 |_=>none
theorem qval_does {P:Program} {σ:List (Nat × Value)} {op:Op} {v:Value} (h:qval σ op=some v):isAlloc op=false∧∀ g η,Does P op σ g η v η:=by
 unfold qval at h
 split at h
 ·exact ⟨rfl,fun g η=>.mv h⟩
 ·exact ⟨rfl,fun g η=>.as h⟩
 ·split at h
  ·rename_i e;exact ⟨rfl,fun g η=>.extract e h⟩
  ·cases h
 ·split at h
  ·rename_i e;exact ⟨rfl,fun g η=>.pickT e h⟩
  ·rename_i e;exact ⟨rfl,fun g η=>.pickF e h⟩
  ·cases h
 ·cases h
def qfire (ops:Array Oper) (n i:Nat) (σ:List (Nat × Value)):Option (Nat × Value) :=
 match opAt ops i n with
 |some (d,op)=>match qval σ op with|some v=>some (d,v)|none=>none
 |none=>match opAtG ops i n with
  |some (d,op,t,b)=>match look σ t with
   |some u=>match notB b u with
    |true=>(match isAlloc op with|false=>some (d,undef)|true=>none)
    |false=>match qval σ op with|some v=>some (d,v)|none=>none
   |none=>none
  |none=>none
theorem qfire_spec {ops:Array Oper} {n i d:Nat} {σ:List (Nat × Value)} {v:Value} (h:qfire ops n i σ=some (d,v)) :
  (∃ op,Fires ops i n σ d op∧qval σ op=some v)∨(∃ op t b u,opAtG ops i n=some (d,op,t,b)∧look σ t=some u∧notB b u=true∧isAlloc op=false∧v=undef):=by
 unfold qfire at h
 split at h
 ·rename_i e
  split at h
  ·rename_i e2;cases h;exact .inl ⟨_,.p e,e2⟩
  ·cases h
 ·split at h
  ·rename_i t b e
   split at h
   ·rename_i u e2
    split at h
    ·rename_i e3
     split at h
     ·rename_i e5;cases h;exact .inr ⟨_,_,_,_,e,e2,e3,e5,rfl⟩
     ·cases h
    ·rename_i e3
     split at h
     ·rename_i e4
      cases h
      have hu:u=.bool b:=by
       cases u<;>simp [notB] at e3
       rw [e3]
      subst hu;exact .inl ⟨_,.g e e2,e4⟩
     ·cases h
   ·cases h
  ·cases h
def qrun (ops:Array Oper) (n:Nat):Nat→List Nat→List (Nat × Value)→Option (List Nat × List (Nat × Value))
 |0,l,σ=>some (l,σ)
 |k+1,i::l,σ=>match qfire ops n i σ with|some (d,v)=>qrun ops n k l ((d,v)::σ)|none=>none
 |_+1,[],_=>none
section
variable {ro:Option Nat} {P:Program} {fn:Func} {n:Nat} {R:Ending→World→Prop} {k:List Item} {D:List Deferred} {g:Gr} {η:List SProp} {ops:Array Oper}
theorem O.q:∀ (m:Nat) {l l' :List Nat} {σ σ' :List (Nat × Value)},qrun ops n m l σ=some (l',σ')→O ro P fn n R ops l' k σ' D g η→O ro P fn n R ops l k σ D g η
 |0,_,_,_,_,h,hn=>by cases h;exact hn
 |m+1,[],_,_,_,h,_=>by cases h
 |m+1,i::l,_,σ,_,h,hn=>by
  simp only [qrun] at h
  split at h
  ·rename_i d v e
   have r:=O.q m h hn
   rcases qfire_spec e with ⟨op,h1,h2⟩|⟨op,t,b,u,h1,h2,h3,h4,rfl⟩
   ·exact O.op h1 ((qval_does h2).2 g η) r
   ·exact O.opN h1 h2 h3 r
  ·cases h
theorem OD.q:∀ (m:Nat) {l l' :List Nat} {σ σ' :List (Nat × Value)},qrun ops n m l σ=some (l',σ')→OD P fn n R ops k D g l' σ' η→OD P fn n R ops k D g l σ η
 |0,_,_,_,_,h,hn=>by cases h;exact hn
 |m+1,[],_,_,_,h,_=>by cases h
 |m+1,i::l,_,σ,_,h,hn=>by
  simp only [qrun] at h
  split at h
  ·rename_i d v e
   have r:=OD.q m h hn
   rcases qfire_spec e with ⟨op,h1,h2⟩|⟨op,t,b,u,h1,h2,h3,h4,rfl⟩
   ·exact ODx.quiet h1 (qval_does (P:=P) h2).1 (fun η=>(qval_does h2).2 g η) r
   ·exact ODx.no h1 h4 h2 h3 r
  ·cases h
end
end Go.Sp
end
section
/- Texts of this proof. -/
namespace Go.Sp
def Rp.Pure {α:Type} (T:Rp α):Prop:=∀ (h:Fr) (cs:List Value) (a:α),T.rel h cs a→T.rel Fr.emp cs a
theorem pure_u8:Rp.u8.Pure:=fun _ _ _ h=>h
theorem pure_str:Rp.str.Pure:=fun _ _ _ h=>h
def OwnP {α:Type} (T:Rp α) (e:TypeId) (v:Value) (xs:List α):SProp:=fun h=>∃ css:List (List Value),All2 (T.rel Fr.emp) css xs∧Own v T.k e xs.length css.flatten h
theorem OwnP.arr {α:Type} {T:Rp α} {e:TypeId} {v:Value} {xs:List α} {h:Fr}:OwnP T e v xs h→Arr T h v xs
 |⟨css,a,b⟩=>⟨css,a.imp fun _ _=>T.mono (Fr.emp_sub _),b.sl⟩
theorem OwnP.shape {α:Type} {T:Rp α} {e:TypeId} {v:Value} {xs:List α} {h:Fr} (x:OwnP T e v xs h):∃ a c,v=.slice a xs.length c:=x.arr.shape
theorem OwnP.of {α:Type} {T:Rp α} {e:TypeId} {v:Value} {xs:List α} {css:List (List Value)} {m:Nat} {cs:List Value} (ha:All2 (T.rel Fr.emp) css xs) (hm:m=xs.length) (hc:cs=css.flatten) {k:Nat} (hk:k=T.k) :
  ∀ h,Own v k e m cs h→OwnP T e v xs h:=by subst hm hc hk;exact fun h x=>⟨css,ha,x⟩
theorem all2_map {α:Type} {T:Rp α} {f:α→List Value} (hf:∀ x,T.rel Fr.emp (f x) x):∀ xs:List α,All2 (T.rel Fr.emp) (xs.map f) xs
 |[]=>trivial
 |x::xs=>⟨hf x,all2_map hf xs⟩
theorem All2.one {α:Type} {T:Rp α} {h:Fr}:∀ {css:List (List Value)} {xs:List α},All2 (T.rel h) css xs→∀ c∈css.flatten,c.oneCell' =true
 |[],[],_,c,hc=>by cases hc
 |_::_,_::_,⟨x,y⟩,c,hc=>by
  simp only [List.flatten_cons,List.mem_append] at hc
  rcases hc with hc|hc
  ·exact T.one x c hc
  ·exact All2.one y c hc
section
variable {ro:Option Nat} {P:Program} {σ σ' :List (Nat × Value)} {g:Gr} {η η' ζ θ:List SProp} {fn:Func} {n:Nat} {R:Ending→World→Prop} {k K:List Item} {D:List Deferred} {ops:Array Oper} {i d:Nat} {l:List Nat} {t e:TypeId} {x y:Operand} {todo:List Item}
theorem DoesE.borrow {op:Op} {Q:Value→List SProp→Prop} {A:SProp} (h:∀ m:Fr,A m→g.h.disj m→DoesE P op σ (g.add m) η Q):DoesE P op σ g (A::η) fun v η' =>∃ η₁,Q v η₁∧η' =A::η₁ :=
 fun o ρ w h1 h2 h3=>by
  obtain ⟨m,hm,hd,hw⟩:=h3.freeze;obtain ⟨v,w',η₁,q,r,hw'⟩:=h m hm hd o ρ w h1 h2 hw;exact ⟨v,w',_,⟨η₁,q,rfl⟩,r,hw'.thaw hm hd⟩
theorem DoesE.appendP {α:Type} {T:Rp α} {by_:Nat} {z:List Value} {v u:Value} {xs ys:List α} (hT:T.Pure) (ht:P.underlying t=some (.slice e)) (he:elemIs P e T.k by_ z) (hk:0<T.k) (hx:ev σ x=some v) (hy:ev σ y=some u)
  (hs:Sel η (OwnP T e v xs) ζ) (hu:Arr T g.h u ys) (hb:(xs.length+ys.length)*by_≤140737488355328) (h63:xs.length+ys.length≤9223372036854775807) :
  DoesE P (.call ⟨.builtin .append,#[x,y],#[t,t]⟩) σ g η fun v' η' =>∃ a c,v' =.slice a (xs.length+ys.length) c∧η' =OwnP T e v' (xs++ys)::ζ:=by
 intro o ρ w h1 h2 h3
 have hw:=h3.sel hs;obtain ⟨p1,p2,p3,K,hd,s1,s2,k1,k2,kd,t1,t2,⟨css,ha,hown⟩,hr⟩:=hw;have hw' :Holds w g (Own v T.k e xs.length css.flatten::ζ):=⟨p1,p2,p3,K,hd,s1,s2,k1,k2,kd,t1,t2,hown,hr⟩;obtain ⟨dss,hda,hsl⟩:=hu;obtain ⟨v',w',η',hη,hrun,hh⟩:=DoesE.append (g:=g) ht he hk hx hy .here hsl (All2.one hda) hb h63 o ρ w h1 h2 hw';subst hη;have hh' :Holds w' g (OwnP T e v' (xs++ys)::ζ):=hh.imp fun _=>Sat.cons_imp (OwnP.of (css:=css++dss) (ha.append (hda.imp fun _ _ q=>hT _ _ _ q)) (by simp) (by simp) rfl) fun _ q=>q;obtain ⟨a,c,hv⟩:∃ a c,v' =.slice a (xs.length+ys.length) c:=by
  obtain ⟨_,_,_,_,_,_,_,k1,_,_,_,_,hA,_⟩:=hh';obtain ⟨a,c,h⟩:=hA.shape;exact ⟨a,c,by simpa using h⟩
 exact ⟨v',w',_,⟨a,c,hv,rfl⟩,hrun,hh'⟩
theorem DoesE.appendL {α:Type} {T:Rp α} {by_ m:Nat} {z cs:List Value} {v u:Value} {xs ys:List α} {dss:List (List Value)} (ht:P.underlying t=some (.slice e)) (he:elemIs P e T.k by_ z) (hk:0<T.k) (hx:ev σ x=some v) (hy:ev σ y=some u)
  (hl:Sel η (Own u T.k e m cs) θ) (hs:Sel θ (OwnP T e v xs) ζ) (hm:m=ys.length) (hc:cs=dss.flatten) (hd:All2 (T.rel Fr.emp) dss ys) (hb:(xs.length+ys.length)*by_≤140737488355328) (h63:xs.length+ys.length≤9223372036854775807) :
  DoesE P (.call ⟨.builtin .append,#[x,y],#[t,t]⟩) σ g η fun v' η' =>∃ a c,v' =.slice a (xs.length+ys.length) c∧η' =OwnP T e v' (xs++ys)::ζ:=by
 subst hm hc
 intro o ρ w h1 h2 h3
 obtain ⟨m,hm,hdj,hw⟩:=(h3.sel hl).freeze;have hw:=hw.sel hs;obtain ⟨p1,p2,p3,K,hdd,s1,s2,k1,k2,kd,t1,t2,⟨css,ha,hown⟩,hr⟩:=hw;have hw' :Holds w (g.add m) (Own v T.k e xs.length css.flatten::ζ):=⟨p1,p2,p3,K,hdd,s1,s2,k1,k2,kd,t1,t2,hown,hr⟩;have hsl:Sl (g.add m).h u T.k ys.length dss.flatten:=hm.sl.mono (Fr.sub_add_right hdj);obtain ⟨v',w',η',hη,hrun,hh⟩:=DoesE.append (g:=g.add m) ht he hk hx hy .here hsl (All2.one hd) hb h63 o ρ w h1 h2 hw';subst hη;have hh' :Holds w' (g.add m) (OwnP T e v' (xs++ys)::ζ):=hh.imp fun _=>Sat.cons_imp (OwnP.of (css:=css++dss) (ha.append hd) (by simp) (by simp) rfl) fun _ q=>q;obtain ⟨a,c,hv⟩:∃ a c,v' =.slice a (xs.length+ys.length) c:=by
  obtain ⟨_,_,_,_,_,_,_,k1,_,_,_,_,hA,_⟩:=hh';obtain ⟨a,c,h⟩:=hA.shape;exact ⟨a,c,by simpa using h⟩
 exact ⟨v',w',_,⟨a,c,hv,rfl⟩,hrun,(hh'.thaw hm hdj).drop⟩
def PtrIn (v:Value) (k j:Nat) (p:Addr):Prop:=∃ b m c,v=.slice (some ⟨b,0,none⟩) m c∧p=⟨b,j*k,none⟩
theorem Holds.ownP_block {α:Type} {T:Rp α} {w:World} {v:Value} {xs:List α} (h:Holds w g (OwnP T e v xs::ζ)) (hne:0<xs.length) :
  ∃ b cap cur css,v=.slice (some ⟨b,0,none⟩) xs.length cap∧xs.length≤cap∧cap≤9223372036854775807∧cur.size=cap*T.k∧cur.toList.take (xs.length*T.k)=css.flatten∧All2 (T.rel Fr.emp) css xs∧∃ fz,Thawed fz (cap*T.k)∧Holds w g (blk b (.cells cur e fz)::ζ):=by
 obtain ⟨p1,p2,p3,K,hdd,s1,s2,k1,k2,kd,t1,t2,⟨css,ha,hl,hA⟩,hr⟩:=h
 rcases hA with ⟨_,h0⟩|⟨b,cap,cur,hv,⟨fz,hb,hz⟩,h1,h2,h3,h4⟩
 ·omega
 ·exact ⟨b,cap,cur,css,hv,h1,h2,h3,h4,ha,fz,hz,p1,p2,p3,K,hdd,s1,s2,k1,k2,kd,t1,t2,hb,hr⟩
theorem DoesE.idxOwn {α:Type} {T:Rp α} {v:Value} {xs:List α} {j:Nat} {kd:IntKind} (ht:P.underlying t=some (.slice e)) (he:(P.info? e).map (·.size)=some T.k) (hx:ev σ x=some v) {zi:Int} (hy:ev σ y=some (.int kd zi)) (hzi:zi=(j:Int))
  (hs:Sel η (OwnP T e v xs) ζ) (hj:j<xs.length):DoesE P (.indexAddr t x y) σ g η fun u η' =>∃ p,u=.pointer (some p)∧PtrIn v T.k j p∧η' =η :=
 fun o ρ w ho hk hw=>by
  subst hzi;obtain ⟨b,cap,cur,css,rfl,_⟩:=(hw.sel hs).ownP_block (by omega);refine ⟨.pointer (some ⟨b,j*T.k,none⟩),w,η,⟨_,rfl,⟨b,_,_,rfl,rfl⟩,rfl⟩,?_,hw⟩;have e1:(⟨b,0,none⟩:Addr).add (j*T.k)=⟨b,j*T.k,none⟩:=by rw [add_lit];simp
  simp [execOp,ho,hk x _ hx,hk y _ hy,Instr.indexAt,asIntOf,run_underlying ht,hj,run_sizeOf he,e1]
theorem set_flat {α:Type} {T:Rp α} {h:Fr} {ds:List Value} {a:α} (hd:T.rel h ds a):∀ {css:List (List Value)} {xs:List α} (j:Nat),All2 (T.rel h) css xs→j<xs.length →
  All2 (T.rel h) (css.set j ds) (xs.set j a)∧(css.set j ds).flatten=css.flatten.take (j*T.k)++ds++css.flatten.drop (j*T.k+T.k)
 |[],[],_,_,hj=>by simp at hj
 |c::css,x::xs,0,⟨hc,hr⟩,_=>by
  have hcl:=T.len hc;refine ⟨⟨hd,hr⟩,?_⟩
  simp [hcl]
 |c::css,x::xs,j+1,⟨hc,hr⟩,hj=>by
  have hcl:=T.len hc;obtain ⟨h1,h2⟩:=set_flat hd j hr (by simpa using hj);refine ⟨⟨hc,h1⟩,?_⟩;have e1:(c++css.flatten).take ((j+1)*T.k)=c++css.flatten.take (j*T.k):=by
   rw [Nat.succ_mul,List.take_append,List.take_of_length_le (l:=c) (by omega)]
   congr 2;omega
  have e2:(c++css.flatten).drop ((j+1)*T.k+T.k)=css.flatten.drop (j*T.k+T.k):=by
   rw [Nat.succ_mul,List.drop_append,List.drop_of_length_le (l:=c) (by omega),List.nil_append]
   congr 1;omega
  simp only [List.set_cons_succ,List.flatten_cons,h2];rw [e1,e2]
  simp
theorem DoesU.storeOwn {α:Type} {T:Rp α} {v u:Value} {xs:List α} {j:Nat} {p:Addr} {a:α} (hsz:(P.info? t).map (·.size)=some T.k) (hx:ev σ x=some (.pointer (some p))) (hp:PtrIn v T.k j p) (hy:ev σ y=some u)
  (hs:Sel η (OwnP T e v xs) ζ) (hj:j<xs.length) (hu:T.rel Fr.emp u.cells.toList a):DoesU P (.store t x y) σ g η (OwnP T e v (xs.set j a)::ζ) :=
 fun o ρ w ho hk hw=>by
  obtain ⟨b,cap,cur,css,rfl,h1,h2,h3,h4,ha,fz,hfz,hwb⟩:=(hw.sel hs).ownP_block (by omega);obtain ⟨b',m',c',he,rfl⟩:=hp
  cases he
  have hul:u.cells.toList.length=T.k:=T.len hu;have hjm:j*T.k+T.k≤xs.length*T.k:=by rw [← Nat.succ_mul];exact Nat.mul_le_mul_right _ hj
  have hmc:xs.length*T.k≤cur.size:=by rw [h3];exact Nat.mul_le_mul_right _ h1
  have hst:=run_storeCells_z P b (j*T.k) e hfz u.cells.toList 0 cur w hwb.block (by omega) (by omega) (T.one hu);simp only [Nat.add_zero,hul] at hst;obtain ⟨q1,q2⟩:=set_flat hu j ha hj;refine ⟨w.setRow b (cur.toList.take (j*T.k)++u.cells.toList++cur.toList.drop (j*T.k+T.k)).toArray,?_,?_⟩
  ·have hc:u.cells.size=T.k:=by rw [← hul];simp
   simp only [List.append_assoc] at hst ⊢
   simp [execOp,ho,hk x _ hx,hk y _ hy,Instr.storeAt,Instr.sureAddr,storeVar,run_sizeOf hsz,hc,hst]
  ·refine (hwb.setRow.ownF hfz (k:=T.k) (m:=xs.length) (cap:=cap) (cs:=(css.set j u.cells.toList).flatten) h1 h2 ?_ ?_).imp fun _=>Sat.cons_imp (OwnP.of q1 (by simp) rfl rfl) fun _ q=>q
   ·simp only [List.size_toArray,List.length_append,List.length_take,List.length_drop,Array.length_toList,hul]
    omega
   ·rw [q2,← h4]
    have l1:(cur.toList.take (j*T.k)).length=j*T.k:=by simp;omega
    simp only [List.append_assoc];rw [List.take_append,l1,List.take_take,Nat.min_eq_right (by omega),List.take_append,hul,List.take_take,Nat.min_eq_left (by omega)];rw [List.take_of_length_le (l:=u.cells.toList) (by omega)]
    congr 2
    rw [List.drop_take]
    congr 1
    omega
theorem Does.loadOwn {α:Type} {T:Rp α} {v:Value} {xs:List α} {j:Nat} {p:Addr} {u:Value} (ht:flat1 P t=true) (hx:ev σ x=some (.pointer (some p))) (hp:PtrIn v T.k j p) (hk1:T.k=1)
  (hs:Sel η (OwnP T e v xs) ζ) (hj:j<xs.length) (hu:∀ cs,T.rel Fr.emp cs xs[j]→cs=[u]):Does P (.load t x) σ g η u η :=
 fun o ρ w ho hk hw=>⟨w,by
  obtain ⟨b,cap,cur,css,rfl,h1,h2,h3,h4,ha,fz,hfz,hwb⟩:=(hw.sel hs).ownP_block (by omega);obtain ⟨b',m',c',he,rfl⟩:=hp
  cases he
  have hjc:j<css.length:=by rw [ha.length];exact hj
  have hg:=ha.flat_get j hjc;rw [hu _ (ha.get j hjc hj),← h4,hk1] at hg;have hb0:=hwb.block;have hc:w.cell? ⟨b,j*T.k,none⟩=some u:=by
   rw [hk1];simp only [World.cell?,hb0];have:(List.take 1 (List.drop (j*1) (cur.toList.take (xs.length*1))))[0]?=some u:=by rw [hg];rfl
   rw [List.getElem?_take_of_lt (by omega),List.getElem?_drop,List.getElem?_take_of_lt (by omega)] at this
   simpa using this
  simp [execOp,ho,hk x _ hx,Instr.loadAt,Instr.sureAddr,loadVar,run_isAgg_flat (flat1_flat ht),hc],hw⟩
theorem reps_flat {α:Type} {T:Rp α} {z:List Value} {a:α} (hz:T.rel Fr.emp z a):∀ m:Nat,∃ css,All2 (T.rel Fr.emp) css (List.replicate m a)∧css.flatten=reps z m
 |0=>⟨[],trivial,rfl⟩
 |m+1=>let ⟨css,h1,h2⟩:=reps_flat hz m;⟨z::css,⟨hz,h1⟩,by simp [reps,h2]⟩
theorem DoesE.makeP {α:Type} {T:Rp α} {by_:Nat} {z:List Value} (a:α) {m:Nat} {kx ky:IntKind} {zx zy:Int} (ht:P.underlying t=some (.slice e)) (he:elemIs P e T.k by_ z) (hk:0<T.k) (hz:T.rel Fr.emp z a)
  (hx:ev σ x=some (.int kx zx)) (hy:ev σ y=some (.int ky zy)) (hzx:zx=(m:Int)) (hzy:zy=(m:Int)) (hb:by_*m≤281474976710656) (h63:m≤9223372036854775807) :
  DoesE P (.makeSlice t x y) σ g η fun v η' =>∃ a' c,v=.slice a' m c∧η' =OwnP T e v (List.replicate m a)::η:=by
 subst hzx hzy
 intro o ρ w h1 h2 h3
 obtain ⟨v,w',η',hη,hrun,hw⟩:=DoesE.make (g:=g) (η:=η) ht he hk hx hy hb h63 o ρ w h1 h2 h3;subst hη;obtain ⟨css,q1,q2⟩:=reps_flat hz m;have hh:Holds w' g (OwnP T e v (List.replicate m a)::η):=hw.imp fun _=>Sat.cons_imp (OwnP.of q1 (by simp) q2.symm rfl) fun _ q=>q;obtain ⟨a',c,hv⟩:∃ a' c,v=.slice a' m c:=by
  obtain ⟨_,_,_,_,_,_,_,k1,_,_,_,_,hA,_⟩:=hh;obtain ⟨a',c,h⟩:=hA.shape;exact ⟨a',c,by simpa using h⟩
 exact ⟨v,w',_,⟨a',c,hv,rfl⟩,hrun,hh⟩
theorem DoesE.makeP0 {α:Type} {T:Rp α} {by_:Nat} {z:List Value} {c:Nat} {kx ky:IntKind} {zx zy:Int} (ht:P.underlying t=some (.slice e)) (he:elemIs P e T.k by_ z)
  (hx:ev σ x=some (.int kx zx)) (hy:ev σ y=some (.int ky zy)) (hzx:zx=0) (hzy:zy=(c:Int)) (hb:by_*c≤281474976710656) (h63:c≤9223372036854775807) :
  DoesE P (.makeSlice t x y) σ g η fun v η' =>∃ a' c,v=.slice a' 0 c∧η' =OwnP T e v []::η:=by
 subst hzx hzy
 intro o ρ w h1 h2 h3
 obtain ⟨v,w',η',hη,hrun,hw⟩:=DoesE.make0 (g:=g) (η:=η) ht he hx hy hb h63 o ρ w h1 h2 h3;subst hη;have hh:Holds w' g (OwnP T e v []::η):=hw.imp fun _=>Sat.cons_imp (OwnP.of (T:=T) (xs:=[]) (css:=[]) trivial (by simp) rfl rfl) fun _ q=>q;obtain ⟨a',c,hv⟩:∃ a' c,v=.slice a' 0 c:=by
  obtain ⟨_,_,_,_,_,_,_,k1,_,_,_,_,hA,_⟩:=hh;obtain ⟨a',c,h⟩:=hA.shape;exact ⟨a',c,by simpa using h⟩
 exact ⟨v,w',_,⟨a',c,hv,rfl⟩,hrun,hh⟩
theorem DoesE.litP {α:Type} {T:Rp α} {by_ len:Nat} {z:List Value} {parts:Array (Nat × Operand)} {vs:List Value} {ys:List α} (ht:P.underlying t=some (.slice e)) (he:elemIs P e T.k by_ z) (hk:0<T.k)
  (hp:partsOf σ parts.toList 0=some vs) (hlen:parts.toList.length=len) (hvs:All2 (T.rel Fr.emp) (vs.map (·.cells.toList)) ys) (h24:len*T.k≤16777216) :
  DoesE P (.buildSlice t len parts) σ g η fun v η' =>∃ a c,v=.slice a len c∧η' =OwnP T e v ys::η:=by
 intro o ρ w h1 h2 h3
 have hl:vs.length=len:=by rw [partsOf_length _ _ _ hp,hlen]
 have hyl:ys.length=len:=by rw [← hvs.length,List.length_map,hl]
 have hall:vs.all (fun v=>Nat.beq v.cells.size T.k)=true:=by
  rw [List.all_eq_true]
  intro v hv
  obtain ⟨i,hi,rfl⟩:=List.mem_iff_getElem.1 hv;have:=T.len (hvs.get i (by simpa using hi) (by omega));have hs:vs[i].cells.size=T.k:=by simpa using this
  rw [hs];exact Nat.beq_refl _
 obtain ⟨v,w',η',hη,hrun,hw⟩:=DoesE.lit (g:=g) (η:=η) ht he hk hp hlen hall h24 o ρ w h1 h2 h3;subst hη;have hh:Holds w' g (OwnP T e v ys::η):=hw.imp fun _=>Sat.cons_imp (OwnP.of hvs hyl.symm rfl rfl) fun _ q=>q;obtain ⟨a',c,hv⟩:∃ a' c,v=.slice a' len c:=by
  obtain ⟨_,_,_,_,_,_,_,k1,_,_,_,_,hA,_⟩:=hh;obtain ⟨a',c,h⟩:=hA.shape;exact ⟨a',c,by simpa [hyl] using h⟩
 exact ⟨v,w',_,⟨a',c,hv,rfl⟩,hrun,hh⟩
theorem DoesE.appendO {α:Type} {T:Rp α} {by_:Nat} {z:List Value} {v u:Value} {xs ys:List α} (ht:P.underlying t=some (.slice e)) (he:elemIs P e T.k by_ z) (hk:0<T.k) (hx:ev σ x=some v) (hy:ev σ y=some u)
  (hl:Sel η (OwnP T e u ys) θ) (hs:Sel θ (OwnP T e v xs) ζ) (hb:(xs.length+ys.length)*by_≤140737488355328) (h63:xs.length+ys.length≤9223372036854775807) :
  DoesE P (.call ⟨.builtin .append,#[x,y],#[t,t]⟩) σ g η fun v' η' =>∃ a c,v' =.slice a (xs.length+ys.length) c∧η' =OwnP T e v' (xs++ys)::ζ:=by
 intro o ρ w h1 h2 h3
 obtain ⟨p1,p2,p3,K,hdd,s1,s2,k1,k2,kd,t1,t2,⟨css,ha,hown⟩,hr⟩:=h3.sel hl;have hw' :Holds w g (Own u T.k e ys.length css.flatten::θ):=⟨p1,p2,p3,K,hdd,s1,s2,k1,k2,kd,t1,t2,hown,hr⟩;exact DoesE.appendL (g:=g) ht he hk hx hy .here hs rfl rfl ha hb h63 o ρ w h1 h2 hw'
theorem ownP_nil {α:Type} {T:Rp α}:∀ h,OwnP T e (.slice none 0 0) ([]:List α) h:=fun _=>⟨[],trivial,by simp,.inl ⟨rfl,rfl⟩⟩
theorem S.addNil {α:Type} {T:Rp α} (h:S ro P fn n R todo σ D g (OwnP T e (.slice none 0 0) ([]:List α)::η)):S ro P fn n R todo σ D g η :=
 S.imp (η' :=OwnP T e (.slice none 0 0) ([]:List α)::η) (fun m hm=>⟨Fr.emp,m,Fr.emp_disj _,Fr.emp_sub _,Fr.sub_refl _,ownP_nil _,hm⟩) h
end
end Go.Sp
end
