/- Texts of this proof, one behind the other. -/
import Derived.Test.YtojafegjlahajaaGreatDoorQSpDefer
import Derived.Lib.ConvBytes
set_option linter.unusedSectionVars false
section
/- Texts of this proof. -/
namespace Go.Sp
def EachP {β α:Type} (A:β→α→SProp):List β→List α→SProp
 |[],[]=>fun _=>True
 |b::bs,a::as=>fun h=>Sat [A b a,EachP A bs as] h
 |_,_=>fun _=>False
theorem Sat.two {A B:SProp} {m:Fr}:Sat [A,B] m↔∃ h1 h2:Fr,h1.disj h2∧h1.sub m∧h2.sub m∧A h1∧(∃ h3:Fr,h3.sub h2∧B h3):=by
 constructor
 ·rintro ⟨h1,h2,d,s1,s2,x,k1,k2,_,t1,_,y,_⟩
  exact ⟨h1,h2,d,s1,s2,x,k1,t1,y⟩
 ·rintro ⟨h1,h2,d,s1,s2,x,h3,t,y⟩
  exact ⟨h1,h2,d,s1,s2,x,h3,Fr.emp,Fr.disj_symm (Fr.emp_disj _),t,Fr.emp_sub _,y,trivial⟩
theorem EachP.snoc {β α:Type} {A:β→α→SProp} {b:β} {a:α}:∀ {bs:List β} {as:List α} {m:Fr},Sat [EachP A bs as,A b a] m→∃ h:Fr,h.sub m∧EachP A (bs++[b]) (as++[a]) h
 |[],[],m,h=>⟨m,Fr.sub_refl _,by
  have h2:Sat [A b a] m:=h.tail';exact Sat.append (η:=[A b a]) (ζ:=[EachP A [] []]) (Fr.disj_symm (Fr.emp_disj _)) h2 ⟨Fr.emp,Fr.emp,Fr.emp_disj _,Fr.emp_sub _,Fr.emp_sub _,trivial,trivial⟩ |>Sat.mono (Fr.add_sub (Fr.sub_refl _) (Fr.emp_sub _))⟩
 |[],_::_,_,h=>by obtain ⟨_,_,_,_,_,x,_⟩:=h;exact x.elim
 |_::_,[],_,h=>by obtain ⟨_,_,_,_,_,x,_⟩:=h;exact x.elim
 |b' ::bs,a' ::as,m,h=>by
  obtain ⟨h1,h2,d,s1,s2,x,y⟩:=h;have x' :Sat [A b' a',EachP A bs as] h1:=x;obtain ⟨k1,k2,kd,t1,t2,p,q⟩:=x';have hq:Sat [EachP A bs as,A b a] (k2.add h2):=Sat.append (η:=[EachP A bs as]) (ζ:=[A b a]) (Fr.disj_sub d t2 (Fr.sub_refl _)) q y;obtain ⟨h3,u,z⟩:=EachP.snoc hq;refine ⟨m,Fr.sub_refl _,?_⟩
  show Sat [A b' a',EachP A (bs++[b]) (as++[a])] m
  refine ⟨k1,k2.add h2,Fr.disj_add_right kd (Fr.disj_sub d t1 (Fr.sub_refl _)),Fr.sub_trans t1 s1,Fr.add_sub (Fr.sub_trans t2 s1) s2,p,h3,Fr.emp,Fr.disj_symm (Fr.emp_disj _),u,Fr.emp_sub _,z,trivial⟩
theorem EachP.all2 {β α:Type} {A:β→α→SProp} {R:β→α→Prop} {k:Fr} (hA:∀ b a m,A b a m→m.sub k→R b a):∀ {bs:List β} {as:List α} {m:Fr},EachP A bs as m→m.sub k→All2 R bs as
 |[],[],_,_,_=>trivial
 |[],_::_,_,h,_=>h.elim
 |_::_,[],_,h,_=>h.elim
 |b::bs,a::as,m,h,s=>by
  have h' :Sat [A b a,EachP A bs as] m:=h;obtain ⟨k1,k2,_,t1,t2,p,k3,_,_,u,_,q,_⟩:=h';exact ⟨hA b a k1 p (Fr.sub_trans t1 s),EachP.all2 hA q (Fr.sub_trans u (Fr.sub_trans t2 s))⟩
abbrev RowsP {α:Type} (T:Rp α) (e:TypeId) (vs:List Value) (xss:List (List α)):SProp:=EachP (OwnP T e) vs xss
section
variable {ro:Option Nat} {P:Program} {fn:Func} {n:Nat} {R:Ending→World→Prop} {k:List Item} {σ:List (Nat × Value)} {D:List Deferred} {g:Gr} {η ζ θ:List SProp} {ops:Array Oper} {L:List Nat}
theorem Sat.each {β α:Type} {A:β→α→SProp} {b:β} {a:α} {bs:List β} {as:List α} {m:Fr} (h:Sat (EachP A bs as::A b a::θ) m):Sat (EachP A (bs++[b]) (as++[a])::θ) m:=by
 obtain ⟨h1,h2,d,s1,s2,x,k1,k2,kd,t1,t2,y,z⟩:=h;obtain ⟨h3,u,w⟩:=EachP.snoc (Sat.append (η:=[EachP A bs as]) (ζ:=[A b a]) (Fr.disj_sub d (Fr.sub_refl _) t1) ⟨h1,Fr.emp,Fr.disj_symm (Fr.emp_disj _),Fr.sub_refl _,Fr.emp_sub _,x,trivial⟩ ⟨k1,Fr.emp,Fr.disj_symm (Fr.emp_disj _),Fr.sub_refl _,Fr.emp_sub _,y,trivial⟩);exact ⟨h3,k2,Fr.disj_sub (Fr.disj_add (Fr.disj_sub d (Fr.sub_refl _) t2) kd) u (Fr.sub_refl _),Fr.sub_trans u (Fr.add_sub s1 (Fr.sub_trans t1 s2)),Fr.sub_trans t2 s2,w,z⟩
theorem O.each {β α:Type} {A:β→α→SProp} {b:β} {a:α} {bs:List β} {as:List α} (s1:Sel η (EachP A bs as) ζ) (s2:Sel ζ (A b a) θ) (h:O ro P fn n R ops L k σ D g (EachP A (bs++[b]) (as++[a])::θ)):O ro P fn n R ops L k σ D g η :=
 O.sel s1 (O.imp (η:=EachP A bs as::ζ) (fun _ x=>Sat.each (Sat.cons_imp (fun _ y=>y) (fun _ y=>Sat.perm s2.perm y) x)) h)
theorem S.imp' {todo:List Item} (hs:∀ m,Sat η m→Sat ζ m) (h:S ro P fn n R todo σ D g ζ):S ro P fn n R todo σ D g η:=fun a w hf hd hw=>h a w hf hd (hw.imp hs)
theorem S.each {todo:List Item} {β α:Type} {A:β→α→SProp} {b:β} {a:α} {bs:List β} {as:List α} (s1:Sel η (EachP A bs as) ζ) (s2:Sel ζ (A b a) θ) (h:S ro P fn n R todo σ D g (EachP A (bs++[b]) (as++[a])::θ)):S ro P fn n R todo σ D g η :=
 S.sel s1 (S.imp' (η:=EachP A bs as::ζ) (fun _ x=>Sat.each (Sat.cons_imp (fun _ y=>y) (fun _ y=>Sat.perm s2.perm y) x)) h)
theorem sat_each0 {β α:Type} {A:β→α→SProp} {m:Fr} (h:Sat η m):Sat (EachP A [] []::η) m:=⟨Fr.emp,m,Fr.emp_disj _,Fr.emp_sub _,Fr.sub_refl _,trivial,h⟩
theorem S.each0 {todo:List Item} {β α:Type} (A:β→α→SProp) (h:S ro P fn n R todo σ D g (EachP A [] []::η)):S ro P fn n R todo σ D g η:=S.imp' (fun _=>sat_each0) h
theorem Sat.rows {α:Type} {T:Rp α} {e e' :TypeId} {v:Value} {vs:List Value} {xss:List (List α)} {m:Fr} (h:Sat [OwnP Rp.val e v vs,RowsP T e' vs xss] m):Arr (Rp.slice T) m v xss:=by
 obtain ⟨h1,h2,_,s1,s2,x,h3,_,_,t,_,y,_⟩:=h;exact (x.arr.mono s1).rows (EachP.all2 (fun b a m' z s=>z.arr.mono s) y (Fr.sub_trans t s2))
theorem sat_rows {α:Type} {T:Rp α} {e e' :TypeId} {v:Value} {vs:List Value} {xss:List (List α)} (s1:Sel η (OwnP Rp.val e v vs) ζ) (s2:Sel ζ (RowsP T e' vs xss) θ) (m:Fr) (h:Sat η m):Sat ((fun m=>Arr (Rp.slice T) m v xss)::θ) m:=by
 obtain ⟨h1,h2,d,t1,t2,x,y⟩:=Sat.perm s1.perm h;obtain ⟨k1,k2,kd,u1,u2,p,q⟩:=Sat.perm s2.perm y;refine ⟨h1.add k1,k2,Fr.disj_add (Fr.disj_sub d (Fr.sub_refl _) u2) kd,Fr.add_sub t1 (Fr.sub_trans u1 t2),Fr.sub_trans u2 t2,?_,q⟩;exact Sat.rows (Sat.append (η:=[OwnP Rp.val e v vs]) (ζ:=[RowsP T e' vs xss]) (Fr.disj_sub d (Fr.sub_refl _) u1) ⟨h1,Fr.emp,Fr.disj_symm (Fr.emp_disj _),Fr.sub_refl _,Fr.emp_sub _,x,trivial⟩ ⟨k1,Fr.emp,Fr.disj_symm (Fr.emp_disj _),Fr.sub_refl _,Fr.emp_sub _,p,trivial⟩)
theorem S.retCellAgg {tt b:Nat} {ty T:TypeId} {cs:List Value} (hr:fn.results=#[.cell tt ty]) (hty:∀ w,(isAgg ty).run P w=.ok true w) (hsz:(P.info? ty).map (·.size)=some cs.length) (hl:look σ tt=some (.pointer (some ⟨b,0,none⟩))) (hs:Sel η (obj b T cs) ζ)
  (h:∀ w,Holds w g (obj b T cs::ζ)→R (.returned (.agg cs.toArray)) w):S none P fn n R (.code .ret::k) σ [] g η:=by
 refine S.retL fun a w hf hd hw=>?_;have hw' :=hw.sel hs;refine ⟨.agg cs.toArray,?_,h w hw'⟩;have hc0:=run_loadCells_list (P:=P) w ⟨b,0,none⟩ cs fun j v hj=>by
  rw [add_lit];exact hw'.obj_cell (by simpa using hj)
 have hl' :=hf.2 tt _ hl
 simp [results,hr,Array.getD_eq_getD_getElem?,hl',asAddr,loadVar,hty,run_sizeOf hsz,hc0]
theorem O.frzR {α:Type} {T:Rp α} {e e' :TypeId} {v:Value} {vs:List Value} {xss:List (List α)} (s1:Sel η (OwnP Rp.val e v vs) ζ) (s2:Sel ζ (RowsP T e' vs xss) θ) (h:∀ g' :Gr,g.h.sub g'.h→(∀ w ζ,Holds w g' ζ→Holds w g ζ)→Arr (Rp.slice T) g'.h v xss→O ro P fn n R ops L k σ D g' θ):O ro P fn n R ops L k σ D g η :=
 O.imp (sat_rows s1 s2) (O.frzW Sel.here h)
end
section
variable {ro:Option Nat} {P:Program} {σ:List (Nat × Value)} {g:Gr} {η ζ:List SProp} {fn:Func} {n:Nat} {R:Ending→World→Prop} {k:List Item} {D:List Deferred} {ops:Array Oper} {i d:Nat} {l:List Nat}
 {t e:TypeId} {x y z:Operand} {v:Value} {ka kb:IntKind} {za zb:Int} {a b:Nat} {α:Type} {T:Rp α} {xs:List α} {r:Fr}
theorem Con.lentD {f:FuncId} {args:Array Value} {h:Fr} {bs:List SProp} {Post:Ending→List SProp→Prop} (con:∀ m:Fr,Sat bs m→h.disj m→Con P f args (h.add m) η Post) :
  Con P f args h (η++bs) Post:=fun g hg w hw=>by
 obtain ⟨m,hm,hd,hw'⟩:=Holds.freezeAll (η:=η) (ζ:=bs) hw;have hd' :h.disj m:=Fr.disj_sub hd hg (Fr.sub_refl _);exact (con m hm hd' (g.add m) (Fr.add_sub (Fr.sub_trans hg (Fr.sub_add_left _ _)) (Fr.sub_add_right hd)) w hw').mono fun e w' ⟨η',x,y⟩=>⟨η',x,y.melt hd⟩
theorem O.callSs {f:FuncId} {xs:Array Operand} {ts:Array TypeId} {vals:List Value} {K' :Value→List SProp→Prop} {first cap:Array Value} (ho:Fires ops i n σ d (.call ⟨.value x,xs,ts⟩)) (hx:ev σ x=some (.func (.func f) first cap)) (hc:callable P f=true)
  (hv:evs σ xs.toList=some vals) {args:Array Value} (hargs:first++vals.toArray++cap=args) {bs:List SProp} (hb:Sels η bs ζ) (con:Con P f args g.h bs (Ret K'))
  (h:∀ v η',K' v η' →O ro P fn n R ops l k ((d,v)::σ) D g (η' ++ζ)):O ro P fn n R ops (i::l) k σ D g η :=
 fun a w hf hd hw=>O.call (ζ:=ζ) ho hx hc hv hargs con h a w hf hd (hw.perm hb.perm)
theorem ODg.callSs {f:FuncId} {xs:Array Operand} {ts:Array TypeId} {vals:List Value} {K' :Value→List SProp→Prop} {first cap:Array Value} (ho:Fires ops i n σ d (.call ⟨.value x,xs,ts⟩)) {fl:Bool} (hd:hdOk fl ops i l=true) (hx:ev σ x=some (.func (.func f) first cap)) (hc:callable P f=true)
  (hv:evs σ xs.toList=some vals) {args:Array Value} (hargs:first++vals.toArray++cap=args) {bs:List SProp} (hb:Sels η bs ζ) (con:Con P f args g.h bs (Ret K'))
  (h:∀ v η',K' v η' →OD P fn n R ops k D g l ((d,v)::σ) (η' ++ζ)):ODx P fn n R ops k D g fl (i::l) σ η :=
 ODx.perm hb.perm (ODg.call (ζ:=ζ) ho hd hx hc hv hargs con h)
theorem OD.callSs {f:FuncId} {xs:Array Operand} {ts:Array TypeId} {vals:List Value} {K' :Value→List SProp→Prop} {first cap:Array Value} (ho:Fires ops i n σ d (.call ⟨.value x,xs,ts⟩)) (hd:descOk ops [i] l=true) (hx:ev σ x=some (.func (.func f) first cap)) (hc:callable P f=true) (hv:evs σ xs.toList=some vals) {args:Array Value} (hargs:first++vals.toArray++cap=args) {bs:List SProp} (hb:Sels η bs ζ) (con:Con P f args g.h bs (Ret K')) (h:∀ v η',K' v η' →OD P fn n R ops k D g l ((d,v)::σ) (η' ++ζ)):OD P fn n R ops k D g (i::l) σ η:=ODg.callSs (fl:=false) ho (by simpa [hdOk] using hd) hx hc hv hargs hb con h
theorem OD.sliceTo (ho:Fires ops i n σ d (.slice t x none (some y) none)) (ht:P.underlying t=some (.slice e)) (he:(P.info? e).map (·.size)=some T.k) (hx:ev σ x=some v) (hy:ev σ y=some (.int kb zb)) (hs:Arr T r v xs) (hz:zb=(b:Int)) (hb:b≤xs.length)
  (h:∀ u,Arr T r u (xs.take b)→OD P fn n R ops k D g l ((d,u)::σ) η):OD P fn n R ops k D g (i::l) σ η:=by
 subst hz;obtain ⟨u,h1,h2⟩:=slice_does (g:=g) (a:=0) (b:=b) (kl:=.i64) ht he hx (lo:=none) (hi:=some y) (fun _ h=>nomatch h) (fun _=>rfl) (fun _ h=>by cases h;exact hy) (fun h=>nomatch h) hs (Nat.zero_le _) hb;exact .quiet ho rfl h1 (h u h2)
theorem OD.sliceFrom (ho:Fires ops i n σ d (.slice t x (some y) none none)) (ht:P.underlying t=some (.slice e)) (he:(P.info? e).map (·.size)=some T.k) (hx:ev σ x=some v) (hy:ev σ y=some (.int ka za)) (hs:Arr T r v xs) (hz:za=(a:Int)) (ha:a≤xs.length)
  (h:∀ u,Arr T r u (xs.drop a)→OD P fn n R ops k D g l ((d,u)::σ) η):OD P fn n R ops k D g (i::l) σ η:=by
 subst hz;obtain ⟨u,h1,h2⟩:=slice_does (g:=g) (a:=a) (b:=xs.length) (kh:=.i64) ht he hx (lo:=some y) (hi:=none) (fun _ h=>by cases h;exact hy) (fun h=>nomatch h) (fun _ h=>nomatch h) (fun _=>rfl) hs ha (Nat.le_refl _);exact .quiet ho rfl h1 (h u (by rw [List.take_length] at h2;exact h2))
theorem ODg.storeObj {t T:TypeId} {x y:Operand} {b i:Nat} {cs news:List Value} {v:Value} {j:Nat} (ho:opAtU ops j=some (.store t x y)) {fl:Bool} (hd:hdOk fl ops j l=true) (hsz:(P.info? t).map (·.size)=some news.length) (hx:ev σ x=some (.pointer (some ⟨b,i,none⟩))) (hy:ev σ y=some v)
  (hv:v.cells.toList=news) (h1:news.all (·.oneCell')=true) (hs:Sel η (obj b T cs) ζ) (hl:i+news.length≤cs.length)
  (h:OD P fn n R ops k D g l σ (obj b T (cs.take i++news++cs.drop (i+news.length))::ζ)):ODx P fn n R ops k D g fl (j::l) σ η :=
 ODx.perm hs.perm (ODg.loudU (η:=obj b T cs::ζ) (η' :=obj b T (cs.take i++news++cs.drop (i+news.length))::ζ) ho rfl hd (fun _=>.storeObj hsz hx hy hv h1 Sel.here hl) h)
theorem OD.storeObj {t T:TypeId} {x y:Operand} {b i:Nat} {cs news:List Value} {v:Value} {j:Nat} (ho:opAtU ops j=some (.store t x y)) (hd:descOk ops [j] l=true) (hsz:(P.info? t).map (·.size)=some news.length) (hx:ev σ x=some (.pointer (some ⟨b,i,none⟩))) (hy:ev σ y=some v) (hv:v.cells.toList=news) (h1:news.all (·.oneCell')=true) (hs:Sel η (obj b T cs) ζ) (hl:i+news.length≤cs.length) (h:OD P fn n R ops k D g l σ (obj b T (cs.take i++news++cs.drop (i+news.length))::ζ)):OD P fn n R ops k D g (j::l) σ η:=ODg.storeObj (fl:=false) ho (by simpa [hdOk] using hd) hsz hx hy hv h1 hs hl h
theorem ODg.store1 {t T:TypeId} {x y:Operand} {b i:Nat} {cs:List Value} {v:Value} {j:Nat} (ho:opAtU ops j=some (.store t x y)) {fl:Bool} (hd:hdOk fl ops j l=true) (ht:flat1 P t=true) (hx:ev σ x=some (.pointer (some ⟨b,i,none⟩))) (hy:ev σ y=some v)
  (h1:v.oneCell' =true) (hs:Sel η (obj b T cs) ζ) (hl:i<cs.length)
  (h:OD P fn n R ops k D g l σ (obj b T (cs.set i v)::ζ)):ODx P fn n R ops k D g fl (j::l) σ η :=
 ODx.perm hs.perm (ODg.loudU (η:=obj b T cs::ζ) (η' :=obj b T (cs.set i v)::ζ) ho rfl hd (fun _=>.store1 ht hx hy h1 Sel.here hl) h)
theorem OD.store1 {t T:TypeId} {x y:Operand} {b i:Nat} {cs:List Value} {v:Value} {j:Nat} (ho:opAtU ops j=some (.store t x y)) (hd:descOk ops [j] l=true) (ht:flat1 P t=true) (hx:ev σ x=some (.pointer (some ⟨b,i,none⟩))) (hy:ev σ y=some v) (h1:v.oneCell' =true) (hs:Sel η (obj b T cs) ζ) (hl:i<cs.length) (h:OD P fn n R ops k D g l σ (obj b T (cs.set i v)::ζ)):OD P fn n R ops k D g (j::l) σ η:=ODg.store1 (fl:=false) ho (by simpa [hdOk] using hd) ht hx hy h1 hs hl h
end
end Go.Sp
end
section
/- Texts of this proof, one behind the other. -/
section
/- Texts of this proof, one behind the other. -/
section
/- Texts of this proof, one behind the other. -/
section
/- Texts of this proof, one behind the other. -/
section
/- Texts of this proof. -/
namespace Go.Sp
section
variable {P:Program} {σ:List (Nat × Value)} {g:Gr} {η ζ θ:List SProp}
def Two {α:Type} (T:Rp α) (e:TypeId) (v:Value) (xs:List α) (u:Value) (ys:List α):SProp:=fun h =>
 (∃ a c,v=.slice a xs.length c∧u=.slice a (xs.length+ys.length) c∧OwnP T e u (xs++ys) h)∨Sat [OwnP T e u (xs++ys),OwnP T e v xs] h
theorem OwnP.take {α:Type} {T:Rp α} {e:TypeId} {a:Option Addr} {n m c:Nat} {xs ys:List α} {h:Fr} (hn:n=xs.length) (x:OwnP T e (.slice a m c) (xs++ys) h):OwnP T e (.slice a n c) xs h:=by
 subst hn;obtain ⟨css,h1,h2,h3⟩:=x;have hl:css.length=xs.length+ys.length:=by rw [h1.length];simp
 have ht:=h1.take xs.length;rw [List.take_left'] at ht
 ·refine ⟨css.take xs.length,ht,?_,?_⟩
  ·rw [← h1.flat_take,List.length_take,h2,List.length_append];exact Nat.min_eq_left (Nat.mul_le_mul_right _ (by omega))
  ·rcases h3 with ⟨h4,h5⟩|⟨b,cap,cur,h4,h5,h6,h7,h8,h9⟩
   ·cases h4
    simp at h5
    exact .inl ⟨by rw [h5.1];rfl,by rw [h5.1];rfl⟩
   ·cases h4
    refine .inr ⟨b,c,cur,rfl,h5,?_,h7,h8,?_⟩
    ·rw [List.length_append] at h6;omega
    ·rw [← h1.flat_take,← h9,List.take_take,List.length_append,Nat.min_eq_left (Nat.mul_le_mul_right _ (by omega))]
 ·rfl
end
end Go.Sp
end
section
/- Texts of this proof. -/
namespace Go.Sp
theorem EachP.len {β α:Type} {A:β→α→SProp}:∀ {bs:List β} {as:List α} {h:Fr},EachP A bs as h→bs.length=as.length
 |[],[],_,_=>rfl
 |[],_::_,_,h=>h.elim
 |_::_,[],_,h=>h.elim
 |_::_,_::_,_,h=>by
  have h' :Sat [_,EachP _ _ _] _:=h;obtain ⟨_,_,_,_,_,_,_,_,_,_,_,q,_⟩:=h'
  simp [EachP.len q]
theorem Sat.join2 {A B C:SProp} {θ:List SProp} (hs:∀ m,Sat [A,B] m→C m):∀ {m:Fr},Sat (A::B::θ) m→Sat (C::θ) m:=by
 rintro m ⟨h1,h2,d,s1,s2,x,k1,k2,kd,t1,t2,y,z⟩;refine ⟨h1.add k1,k2,Fr.disj_add (Fr.disj_sub d (Fr.sub_refl _) t2) kd,Fr.add_sub s1 (Fr.sub_trans t1 s2),Fr.sub_trans t2 s2,hs _ ?_,z⟩;have d2:h1.disj k1:=Fr.disj_sub d (Fr.sub_refl _) t1;exact ⟨h1,k1,d2,Fr.sub_add_left _ _,Fr.sub_add_right d2,x,k1,Fr.emp,Fr.disj_symm (Fr.emp_disj _),Fr.sub_refl _,Fr.emp_sub _,y,trivial⟩
section
variable {ro:Option Nat} {P:Program} {fn:Func} {n:Nat} {R:Ending→World→Prop} {k:List Item} {σ:List (Nat × Value)} {D:List Deferred} {g:Gr} {η ζ θ:List SProp} {ops:Array Oper} {L:List Nat} {β α:Type} {A:β→α→SProp} {todo:List Item}
theorem S.conv {B C:SProp} (s:Sel η B ζ) (hc:∀ m,B m→∃ h:Fr,h.sub m∧C h) (h:S ro P fn n R todo σ D g (C::ζ)):S ro P fn n R todo σ D g η :=
 S.sel s (S.imp' (η:=B::ζ) (ζ:=C::ζ) (fun _ ⟨_,h2,d,s1,s2,x,y⟩=>let ⟨h3,u,z⟩:=hc _ x;⟨h3,h2,Fr.disj_sub d u (Fr.sub_refl _),Fr.sub_trans u s1,s2,z,y⟩) h)
theorem S.factS {B:SProp} {p:Prop} (s:Sel η B ζ) (hs:∀ m,B m→p) (h:p→S ro P fn n R todo σ D g η):S ro P fn n R todo σ D g η :=
 fun a w hf hd hw=>by
  obtain ⟨_,_,_,_,_,_,_,_,_,_,_,_,hB,_⟩:=hw.sel s;exact h (hs _ hB) a w hf hd hw
end
end Go.Sp
end
end
section
/- Texts of this proof. -/
namespace Go.Sp
section
variable {P:Program} {σ:List (Nat × Value)} {g:Gr} {η ζ:List SProp} {t e:TypeId} {x:Operand}
theorem run_byteLoop (P:Program) (w:World) (f:Value→ByteArray→Sem (ForInStep ByteArray)) (hf:∀ (b:UInt8) s,f (byteV b) s=.pure (.yield (s.push b))):∀ (xs:List UInt8) (s:ByteArray),
  (forIn (xs.map byteV) s f:Sem ByteArray).run P w=.ok (⟨s.data++xs.toArray⟩) w
 |[],s=>by simp [forIn]
 |b::xs,s=>by
  have:=run_byteLoop P w f hf xs (s.push b);rw [List.map_cons,List.forIn_cons,hf];simp only [Sem.run_bind,Sem.run,Result.andThen_ok];rw [this];simp
theorem Does.toStr {v:Value} {xs:List UInt8} (ht:P.underlying t=some (.slice e)) (he:P.underlying e=some (.int .u8)) {t2:TypeId} (ht2:P.underlying t2=some .string) (hx:ev σ x=some v) (hs:Arr Rp.u8 g.h v xs) :
  Does P (.convert t t2 x) σ g η (.string (str xs)) η :=
 fun o ρ w ho hk hw=>by
  refine ⟨w,?_,hw⟩;obtain ⟨css,ha,a,cap,rfl,h1,h2,h3,h4⟩:=hs
  cases a with
  |none =>
   obtain ⟨rfl,_⟩:=Arr.nil_of (T:=Rp.u8) (xs:=xs) (by decide) ⟨css,ha,none,cap,rfl,h1,h2,h3,h4⟩
   simp [execOp,ho,hk x _ hx,convert,run_underlying ht,run_underlying he,run_underlying ht2,Conv.bytesToString]
   rfl
  |some a =>
   have hcs:css.flatten=xs.map byteV:=by
    clear h1 h2 h3 h4 hx
    induction css generalizing xs with
    |nil=>cases xs with
     |nil=>rfl
     |cons _ _=>exact ha.elim
    |cons c css ih=>cases xs with
     |nil=>exact ha.elim
     |cons b xs=>rw [List.flatten_cons,ih ha.2,show c=[byteV b] from ha.1];rfl
   have hr:=run_loadCells_list (P:=P) w a css.flatten fun j v hj=>by
    obtain ⟨hj',rfl⟩:=List.getElem?_eq_some_iff.1 hj;obtain ⟨p,hp,hc⟩:=h4 j hj'
    cases hp
    exact Fr.cell_mono hw.ground hc
   have hlen:css.flatten.length=xs.length:=by rw [hcs];simp
   rw [hlen] at hr
   simp [execOp,ho,hk x _ hx,convert,run_underlying ht,run_underlying he,run_underlying ht2,Conv.bytesToString,hr]
   rw [hcs,run_byteLoop P w _ (fun b s=>by simp [byteV];rfl)];have e0:(⟨ByteArray.empty.data++xs.toArray⟩:ByteArray)=str xs:=by
    show (⟨#[]++xs.toArray⟩:ByteArray)=_
    simp [str]
   rw [e0];rfl
end
end Go.Sp
end
end
section
/- Texts of this proof. -/
namespace Go.Sp
def u64 (n:Int):Nat:=(n % 18446744073709551616).toNat
def beAt (n:Int) (i:Nat):UInt8:=UInt8.ofNat (u64 n / 256 ^ i)
def be (n:Int):List UInt8:=[beAt n 7,beAt n 6,beAt n 5,beAt n 4,beAt n 3,beAt n 2,beAt n 1,beAt n 0]
@[simp] theorem be_length (n:Int):(be n).length=8:=rfl
theorem u64_lt (n:Int):u64 n<18446744073709551616:=by unfold u64;omega
theorem wrap_u64_eq (n:Int):IntKind.u64.wrap n=(u64 n:Int):=by
 have:IntKind.u64.wrap n=n % 18446744073709551616:=by simp [IntKind.wrap,IntKind.bits,IntKind.signed]
 rw [this];unfold u64;omega
theorem wrap_u8_eq (n:Int):IntKind.u8.wrap n=n % 256:=by simp [IntKind.wrap,IntKind.bits,IntKind.signed]
theorem shift_byte (n:Int) (i:Nat) (h:i<8) (z:Int) (hz:z=8*(i:Int)):IntKind.u8.wrap ((IntKind.u64.wrap n).fdiv (2 ^ min z.toNat IntKind.u64.bits))=((beAt n i).toNat:Int):=by
 subst hz;have e1:min (8*(i:Int)).toNat IntKind.u64.bits=8*i:=by simp [IntKind.bits];omega
 rw [e1,wrap_u64_eq,wrap_u8_eq];have e2:((2:Int) ^ (8*i))=((256 ^ i:Nat):Int):=by
  rw [Int.pow_mul,Int.natCast_pow];rfl
 rw [e2];have e3:((u64 n:Nat):Int).fdiv ((256 ^ i:Nat):Int)=((u64 n / 256 ^ i:Nat):Int):=by
  rw [Int.fdiv_eq_ediv_of_nonneg _ (Int.natCast_nonneg _)];rfl
 rw [e3];unfold beAt;have:(UInt8.ofNat (u64 n / 256 ^ i)).toNat=u64 n / 256 ^ i % 256:=by simp
 rw [this];omega
def beVal (xs:List UInt8):Nat:=xs.foldl (fun n c=>n*256+c.toNat) 0
theorem beVal_snoc (xs:List UInt8) (c:UInt8):beVal (xs++[c])=beVal xs*256+c.toNat:=by simp [beVal]
theorem pow256_succ (n:Nat):256 ^ (n+1)=256 ^ n*256:=Nat.pow_succ ..
theorem beVal_take (xs:List UInt8) (i:Nat) (h:i<xs.length):beVal (xs.take (i+1))=beVal (xs.take i)*256+xs[i].toNat:=by
 rw [List.take_succ_eq_append_getElem h,beVal_snoc]
theorem beVal_lt (xs:List UInt8) (i:Nat):beVal (xs.take i)<256 ^ i:=by
 induction i with
 |zero=>simp [beVal]
 |succ i ih =>
  by_cases h:i<xs.length
  ·rw [beVal_take xs i h,pow256_succ]
   have:=xs[i].toNat_lt
   omega
  ·have e:xs.take (i+1)=xs.take i:=by rw [List.take_of_length_le (by omega),List.take_of_length_le (by omega)]
   rw [e,pow256_succ];omega
theorem beVal_lt7 (xs:List UInt8) (i:Nat) (hi:i<8):beVal (xs.take i)<72057594037927936 :=
 Nat.lt_of_lt_of_le (beVal_lt xs i) (Nat.le_trans (Nat.pow_le_pow_right (by decide) (show i≤7 by omega)) (by decide))
theorem or_byte (n:Nat) (c:UInt8) (hn:n<72057594037927936) :
  bitsOf .or .u64 (IntKind.u64.wrap ((n:Int)*2 ^ min (8:Int).toNat IntKind.u64.bits)) (IntKind.u64.wrap (c.toNat:Int))=((n*256+c.toNat:Nat):Int):=by
 have hc:=c.toNat_lt;have e0:((n:Int)*2 ^ min (8:Int).toNat IntKind.u64.bits)=((n*256:Nat):Int):=by simp [IntKind.bits]
 have w:∀ k:Nat,k<18446744073709551616→IntKind.u64.wrap (k:Int)=k:=fun k h=>by rw [wrap_u64_eq];unfold u64;omega
 rw [e0, w _ (by omega), w _ (by omega)];have e1 : (n * 256) ||| c.toNat = n * 256 + c.toNat := by
  have:=Nat.shiftLeft_add_eq_or_of_lt (b:=c.toNat) (i:=8) (by omega) n;rw [Nat.shiftLeft_eq] at this;exact this.symm
 have e2:∀ k:Nat,k<18446744073709551616→(BitVec.ofInt IntKind.u64.bits (k:Int)).toNat=k:=fun k h=>by rw [BitVec.toNat_ofInt];simp only [IntKind.bits];omega
 simp only [bitsOf,BitVec.toNat_or];rw [e2 _ (by omega),e2 _ (by omega),e1,w _ (by omega)]
def s64 (n:Nat):Int:=if n<9223372036854775808 then n else n - 18446744073709551616
theorem wrap_i64_eq (n:Nat) (h:n<18446744073709551616):IntKind.i64.wrap (n:Int)=s64 n:=by
 rw [IntKind.wrap_i64];unfold s64;split<;>omega
theorem s64_in (n:Nat) (h:n<18446744073709551616):InI64 (s64 n):=by unfold s64 InI64;split<;>omega
theorem beVal_be (n:Int):beVal (be n)=u64 n:=by
 have h:=u64_lt n;simp only [beVal,be,List.foldl_cons,List.foldl_nil,beAt,UInt8.toNat_ofNat'];generalize u64 n=k at h ⊢;simp only [show (256:Nat)^7=72057594037927936 from rfl,show (256:Nat)^6=281474976710656 from rfl,show (256:Nat)^5=1099511627776 from rfl,show (256:Nat)^4=4294967296 from rfl,show (256:Nat)^3=16777216 from rfl,show (256:Nat)^2=65536 from rfl,show (256:Nat)^1=256 from rfl,show (256:Nat)^0=1 from rfl]
 omega
theorem s64_be (n:Int) (h:InI64 n):s64 (beVal (be n))=n:=by
 rw [beVal_be];unfold s64 u64;unfold InI64 at h;split<;>omega
def bytesOf (xs:List UInt8):List UInt8:=be xs.length++xs
@[simp] theorem bytesOf_length (xs:List UInt8):(bytesOf xs).length=8+xs.length:=by simp [bytesOf]
end Go.Sp
end
end
section
/- Texts of this proof. -/
namespace Go.Sp
section
variable {ro:Option Nat} {P:Program} {fn:Func} {n:Nat} {R:Ending→World→Prop} {k:List Item} {σ:List (Nat × Value)} {D:List Deferred} {g:Gr} {η ζ θ:List SProp} {ops:Array Oper} {L l:List Nat} {i d:Nat} {t e:TypeId} {x y z:Operand} {α:Type} {T:Rp α}
theorem S.unroll {c:Code} (h:S ro P fn n R (.code c::.inLoop c::k) σ D g η):S ro P fn n R (.code (.loop c)::k) σ D g η :=
 S.loop (fun _:Unit=>True) (fun _=>σ) (fun _=>η) (fun _=>0) () trivial Sub.refl rfl fun _ _ _=>h
theorem Does.sliceTo0 {kb:IntKind} {a:Option Addr} {m c q:Nat} {zb:Int} (ht:P.underlying t=some (.slice e)) (he:(P.info? e).map (·.size)=some T.k) (hx:ev σ x=some (.slice a m c)) (hy:ev σ y=some (.int kb zb)) (hz:zb=(q:Int)) (hq:q≤c) :
  Does P (.slice t x none (some y) none) σ g η (.slice a q c) η :=
 fun o ρ w ho hk hw=>⟨w,by
  subst hz
  cases a<;>simp [execOp,ho,hk x _ hx,hk y _ hy,Instr.sliceAt,run_underlying ht,Instr.slice,Instr.sliceBounds,Instr.sliceBound,asIntOf,hq,run_sizeOf he,Addr.add],hw⟩
theorem Does.min2 {kd:IntKind} {a b:Int} (hx:ev σ x=some (.int kd a)) (hy:ev σ y=some (.int kd b)) :
  Does P (.call ⟨.builtin .min,#[x,y],#[t,t]⟩) σ g η (.int kd (if b<a then b else a)) η :=
 fun o ρ w ho hk hw=>⟨w,by
  simp [execOp,ho,hk x _ hx,hk y _ hy,resolve,invoke,builtin,Builtin.min_,Builtin.min2],hw⟩
theorem Sel.app {η ζ θ:List SProp} {A:SProp} (s:Sel η A ζ):Sel (η++θ) A (ζ++θ):=by
 induction s with
 |here=>exact .here
 |there _ ih=>exact .there ih
theorem ODg.litP {fl:Bool} {by_ len:Nat} {z:List Value} {parts:Array (Nat × Operand)} {vs:List Value} {ys:List α} (ho:Fires ops i n σ d (.buildSlice t len parts)) (hd:hdOk fl ops i l=true) (ht:P.underlying t=some (.slice e)) (he:elemIs P e T.k by_ z) (hk:0<T.k)
  (hp:partsOf σ parts.toList 0=some vs) (hlen:parts.toList.length=len) (hvs:All2 (T.rel Fr.emp) (vs.map (·.cells.toList)) ys) (h24:len*T.k≤16777216)
  (h:∀ a c,OD P fn n R ops k D g l ((d,.slice a len c)::σ) (OwnP T e (.slice a len c) ys::η)):ODx P fn n R ops k D g fl (i::l) σ η :=
 ODg.loudE (K:=fun v η' =>∃ a c,v=.slice a len c∧η' =OwnP T e v ys::η) ho rfl hd (fun _=>(DoesE.litP ht he hk hp hlen hvs h24).imp fun _ _ ⟨a,c,h1,h2⟩=>⟨_,⟨a,c,h1,rfl⟩,h2⟩)
  fun _ _ ⟨a,c,h1,h2⟩=>by subst h1;subst h2;exact h a c
theorem OD.litP {by_ len:Nat} {z:List Value} {parts:Array (Nat × Operand)} {vs:List Value} {ys:List α} (ho:Fires ops i n σ d (.buildSlice t len parts)) (hd:descOk ops [i] l=true) (ht:P.underlying t=some (.slice e)) (he:elemIs P e T.k by_ z) (hk:0<T.k) (hp:partsOf σ parts.toList 0=some vs) (hlen:parts.toList.length=len) (hvs:All2 (T.rel Fr.emp) (vs.map (·.cells.toList)) ys) (h24:len*T.k≤16777216) (h:∀ a c,OD P fn n R ops k D g l ((d,.slice a len c)::σ) (OwnP T e (.slice a len c) ys::η)):OD P fn n R ops k D g (i::l) σ η:=ODg.litP (fl:=false) ho (by simpa [hdOk] using hd) ht he hk hp hlen hvs h24 h
theorem ODt.litP {by_ len:Nat} {z:List Value} {parts:Array (Nat × Operand)} {vs:List Value} {ys:List α} (ho:Fires ops i n σ d (.buildSlice t len parts)) (_:true=true) (ht:P.underlying t=some (.slice e)) (he:elemIs P e T.k by_ z) (hk:0<T.k) (hp:partsOf σ parts.toList 0=some vs) (hlen:parts.toList.length=len) (hvs:All2 (T.rel Fr.emp) (vs.map (·.cells.toList)) ys) (h24:len*T.k≤16777216) (h:∀ a c,OD P fn n R ops k D g l ((d,.slice a len c)::σ) (OwnP T e (.slice a len c) ys::η)):ODx P fn n R ops k D g true (i::l) σ η:=ODg.litP (fl:=true) ho rfl ht he hk hp hlen hvs h24 h
theorem ODg.appendO {fl:Bool} {by_:Nat} {z:List Value} {v u:Value} {xs ys:List α} (ho:Fires ops i n σ d (.call ⟨.builtin .append,#[x,y],#[t,t]⟩)) (hd:hdOk fl ops i l=true) (ht:P.underlying t=some (.slice e)) (he:elemIs P e T.k by_ z) (hk:0<T.k) (hx:ev σ x=some v) (hy:ev σ y=some u)
  (hl:Sel η (OwnP T e u ys) θ) (hs:Sel θ (OwnP T e v xs) ζ) (hb:(xs.length+ys.length)*by_≤140737488355328) (h63:xs.length+ys.length≤9223372036854775807)
  (h:∀ a c,OD P fn n R ops k D g l ((d,.slice a (xs.length+ys.length) c)::σ) (OwnP T e (.slice a (xs.length+ys.length) c) (xs++ys)::ζ)):ODx P fn n R ops k D g fl (i::l) σ η :=
 ODg.loudE (K:=fun v' η' =>∃ a c,v' =.slice a (xs.length+ys.length) c∧η' =OwnP T e v' (xs++ys)::ζ) ho rfl hd (fun _=>(DoesE.appendO ht he hk hx hy hl.app hs.app hb h63).imp fun _ _ ⟨a,c,h1,h2⟩=>⟨_,⟨a,c,h1,rfl⟩,h2⟩)
  fun _ _ ⟨a,c,h1,h2⟩=>by subst h1;subst h2;exact h a c
theorem OD.appendO {by_:Nat} {z:List Value} {v u:Value} {xs ys:List α} (ho:Fires ops i n σ d (.call ⟨.builtin .append,#[x,y],#[t,t]⟩)) (hd:descOk ops [i] l=true) (ht:P.underlying t=some (.slice e)) (he:elemIs P e T.k by_ z) (hk:0<T.k) (hx:ev σ x=some v) (hy:ev σ y=some u) (hl:Sel η (OwnP T e u ys) θ) (hs:Sel θ (OwnP T e v xs) ζ) (hb:(xs.length+ys.length)*by_≤140737488355328) (h63:xs.length+ys.length≤9223372036854775807) (h:∀ a c,OD P fn n R ops k D g l ((d,.slice a (xs.length+ys.length) c)::σ) (OwnP T e (.slice a (xs.length+ys.length) c) (xs++ys)::ζ)):OD P fn n R ops k D g (i::l) σ η:=ODg.appendO (fl:=false) ho (by simpa [hdOk] using hd) ht he hk hx hy hl hs hb h63 h
theorem ODg.appendP {fl:Bool} {by_:Nat} {z:List Value} {v u:Value} {xs ys:List α} (ho:Fires ops i n σ d (.call ⟨.builtin .append,#[x,y],#[t,t]⟩)) (hd:hdOk fl ops i l=true) (hT:T.Pure) (ht:P.underlying t=some (.slice e)) (he:elemIs P e T.k by_ z) (hk:0<T.k) (hx:ev σ x=some v) (hy:ev σ y=some u)
  (hs:Sel η (OwnP T e v xs) ζ) (hu:Arr T g.h u ys) (hb:(xs.length+ys.length)*by_≤140737488355328) (h63:xs.length+ys.length≤9223372036854775807)
  (h:∀ a c,OD P fn n R ops k D g l ((d,.slice a (xs.length+ys.length) c)::σ) (OwnP T e (.slice a (xs.length+ys.length) c) (xs++ys)::ζ)):ODx P fn n R ops k D g fl (i::l) σ η :=
 ODg.loudE (K:=fun v' η' =>∃ a c,v' =.slice a (xs.length+ys.length) c∧η' =OwnP T e v' (xs++ys)::ζ) ho rfl hd (fun _=>(DoesE.appendP hT ht he hk hx hy hs.app hu hb h63).imp fun _ _ ⟨a,c,h1,h2⟩=>⟨_,⟨a,c,h1,rfl⟩,h2⟩)
  fun _ _ ⟨a,c,h1,h2⟩=>by subst h1;subst h2;exact h a c
theorem OD.appendP {by_:Nat} {z:List Value} {v u:Value} {xs ys:List α} (ho:Fires ops i n σ d (.call ⟨.builtin .append,#[x,y],#[t,t]⟩)) (hd:descOk ops [i] l=true) (hT:T.Pure) (ht:P.underlying t=some (.slice e)) (he:elemIs P e T.k by_ z) (hk:0<T.k) (hx:ev σ x=some v) (hy:ev σ y=some u) (hs:Sel η (OwnP T e v xs) ζ) (hu:Arr T g.h u ys) (hb:(xs.length+ys.length)*by_≤140737488355328) (h63:xs.length+ys.length≤9223372036854775807) (h:∀ a c,OD P fn n R ops k D g l ((d,.slice a (xs.length+ys.length) c)::σ) (OwnP T e (.slice a (xs.length+ys.length) c) (xs++ys)::ζ)):OD P fn n R ops k D g (i::l) σ η:=ODg.appendP (fl:=false) ho (by simpa [hdOk] using hd) hT ht he hk hx hy hs hu hb h63 h
theorem ODg.idxOwn {v:Value} {xs:List α} {j:Nat} {kd:IntKind} (ho:Fires ops i n σ d (.indexAddr t x y)) {fl:Bool} (hd:hdOk fl ops i l=true) (ht:P.underlying t=some (.slice e)) (he:(P.info? e).map (·.size)=some T.k) (hx:ev σ x=some v) {zi:Int} (hy:ev σ y=some (.int kd zi)) (hzi:zi=(j:Int))
  (hs:Sel η (OwnP T e v xs) ζ) (hj:j<xs.length) (h:∀ p,PtrIn v T.k j p→OD P fn n R ops k D g l ((d,.pointer (some p))::σ) η):ODx P fn n R ops k D g fl (i::l) σ η :=
 ODx.perm hs.perm (ODg.loudE (η:=OwnP T e v xs::ζ) (K:=fun u η' =>∃ p,u=.pointer (some p)∧PtrIn v T.k j p∧η' =OwnP T e v xs::ζ) ho rfl hd
  (fun _=>(DoesE.idxOwn ht he hx hy hzi Sel.here hj).imp fun _ _ ⟨p,a,b,c⟩=>⟨_,⟨p,a,b,rfl⟩,c⟩) fun _ _ ⟨p,a,b,c⟩=>by subst a;subst c;exact ODx.perm hs.perm.symm (h p b))
theorem OD.idxOwn {v:Value} {xs:List α} {j:Nat} {kd:IntKind} (ho:Fires ops i n σ d (.indexAddr t x y)) (hd:descOk ops [i] l=true) (ht:P.underlying t=some (.slice e)) (he:(P.info? e).map (·.size)=some T.k) (hx:ev σ x=some v) {zi:Int} (hy:ev σ y=some (.int kd zi)) (hzi:zi=(j:Int)) (hs:Sel η (OwnP T e v xs) ζ) (hj:j<xs.length) (h:∀ p,PtrIn v T.k j p→OD P fn n R ops k D g l ((d,.pointer (some p))::σ) η):OD P fn n R ops k D g (i::l) σ η:=ODg.idxOwn (fl:=false) ho (by simpa [hdOk] using hd) ht he hx hy hzi hs hj h
theorem ODg.storeOwn {v u:Value} {xs:List α} {j q:Nat} {p:Addr} {a:α} (ho:opAtU ops q=some (.store t x y)) {fl:Bool} (hd:hdOk fl ops q l=true) (hsz:(P.info? t).map (·.size)=some T.k) (hx:ev σ x=some (.pointer (some p))) (hp:PtrIn v T.k j p) (hy:ev σ y=some u)
  (hs:Sel η (OwnP T e v xs) ζ) (hj:j<xs.length) (hu:T.rel Fr.emp u.cells.toList a) (h:OD P fn n R ops k D g l σ (OwnP T e v (xs.set j a)::ζ)):ODx P fn n R ops k D g fl (q::l) σ η :=
 ODx.perm hs.perm (ODg.loudU (η:=OwnP T e v xs::ζ) (η' :=OwnP T e v (xs.set j a)::ζ) ho rfl hd (fun _=>.storeOwn hsz hx hp hy Sel.here hj hu) h)
theorem OD.storeOwn {v u:Value} {xs:List α} {j q:Nat} {p:Addr} {a:α} (ho:opAtU ops q=some (.store t x y)) (hd:descOk ops [q] l=true) (hsz:(P.info? t).map (·.size)=some T.k) (hx:ev σ x=some (.pointer (some p))) (hp:PtrIn v T.k j p) (hy:ev σ y=some u) (hs:Sel η (OwnP T e v xs) ζ) (hj:j<xs.length) (hu:T.rel Fr.emp u.cells.toList a) (h:OD P fn n R ops k D g l σ (OwnP T e v (xs.set j a)::ζ)):OD P fn n R ops k D g (q::l) σ η:=ODg.storeOwn (fl:=false) ho (by simpa [hdOk] using hd) hsz hx hp hy hs hj hu h
theorem OD.slot {v v' :Value} (q:Nat) (hl:look σ q=some v) (h0:v=v') (h:OD P fn n R ops k D g L ((q,v')::σ) η):OD P fn n R ops k D g L σ η:=OD.weaken h (Sub.consE hl h0 Sub.refl)
end
theorem u8_inj {a b:UInt8} (h:(a.toNat:Int)=b.toNat):a=b:=UInt8.toNat_inj.mp (by omega)
end Go.Sp
end
end
