/- Texts of this proof, one behind the other. -/
import Derived.Test.YtojafegjlahajaaGreatDoorQSpDefer
import Derived.Lib.ConvBytes
import Derived.RangeFuncRecord
import Derived.ChangeArms
import Derived.DataReads
import GoSem.ClaimJoined
import Derived.Laws.Strings2
section
/- Texts of this proof, one behind the other. -/
section
/- Texts of this proof. -/
namespace Go.Sp
def EachP {β α:Type} (A:β→α→SProp):List β→List α→SProp
 |[],[]=>fun _=>True
 |b::bs,a::as=>fun h=>Sat [A b a,EachP A bs as] h
 |_,_=>fun _=>False
theorem Sat.two {A B:SProp} {m:Fr}:Sat [A,B] m↔∃ h1 h2:Fr,h1.disj h2∧h1.sub m∧h2.sub m∧A h1∧(∃ h3:Fr,h3.sub h2∧B h3):=by
 constructor
 ·rintro ⟨h1,h2,d,s1,s2,x,k1,k2,_,t1,_,y,_⟩
  exact ⟨h1,h2,d,s1,s2,x,k1,t1,y⟩
 ·rintro ⟨h1,h2,d,s1,s2,x,h3,t,y⟩
  exact ⟨h1,h2,d,s1,s2,x,h3,Fr.emp,Fr.disj_symm (Fr.emp_disj _),t,Fr.emp_sub _,y,trivial⟩
theorem EachP.snoc {β α:Type} {A:β→α→SProp} {b:β} {a:α}:∀ {bs:List β} {as:List α} {m:Fr},Sat [EachP A bs as,A b a] m→∃ h:Fr,h.sub m∧EachP A (bs++[b]) (as++[a]) h
 |[],[],m,h=>⟨m,Fr.sub_refl _,by
  have h2:Sat [A b a] m:=h.tail';exact Sat.append (η:=[A b a]) (ζ:=[EachP A [] []]) (Fr.disj_symm (Fr.emp_disj _)) h2 ⟨Fr.emp,Fr.emp,Fr.emp_disj _,Fr.emp_sub _,Fr.emp_sub _,trivial,trivial⟩ |>Sat.mono (Fr.add_sub (Fr.sub_refl _) (Fr.emp_sub _))⟩
 |[],_::_,_,h=>by obtain ⟨_,_,_,_,_,x,_⟩:=h;exact x.elim
 |_::_,[],_,h=>by obtain ⟨_,_,_,_,_,x,_⟩:=h;exact x.elim
 |b' ::bs,a' ::as,m,h=>by
  obtain ⟨h1,h2,d,s1,s2,x,y⟩:=h;have x' :Sat [A b' a',EachP A bs as] h1:=x;obtain ⟨k1,k2,kd,t1,t2,p,q⟩:=x';have hq:Sat [EachP A bs as,A b a] (k2.add h2):=Sat.append (η:=[EachP A bs as]) (ζ:=[A b a]) (Fr.disj_sub d t2 (Fr.sub_refl _)) q y;obtain ⟨h3,u,z⟩:=EachP.snoc hq;refine ⟨m,Fr.sub_refl _,?_⟩
  show Sat [A b' a',EachP A (bs++[b]) (as++[a])] m
  refine ⟨k1,k2.add h2,Fr.disj_add_right kd (Fr.disj_sub d t1 (Fr.sub_refl _)),Fr.sub_trans t1 s1,Fr.add_sub (Fr.sub_trans t2 s1) s2,p,h3,Fr.emp,Fr.disj_symm (Fr.emp_disj _),u,Fr.emp_sub _,z,trivial⟩
theorem EachP.all2 {β α:Type} {A:β→α→SProp} {R:β→α→Prop} {k:Fr} (hA:∀ b a m,A b a m→m.sub k→R b a):∀ {bs:List β} {as:List α} {m:Fr},EachP A bs as m→m.sub k→All2 R bs as
 |[],[],_,_,_=>trivial
 |[],_::_,_,h,_=>h.elim
 |_::_,[],_,h,_=>h.elim
 |b::bs,a::as,m,h,s=>by
  have h' :Sat [A b a,EachP A bs as] m:=h;obtain ⟨k1,k2,_,t1,t2,p,k3,_,_,u,_,q,_⟩:=h';exact ⟨hA b a k1 p (Fr.sub_trans t1 s),EachP.all2 hA q (Fr.sub_trans u (Fr.sub_trans t2 s))⟩
abbrev RowsP {α:Type} (T:Rp α) (e:TypeId) (vs:List Value) (xss:List (List α)):SProp:=EachP (OwnP T e) vs xss
section
variable {ro:Option Nat} {P:Program} {fn:Func} {n:Nat} {R:Ending→World→Prop} {k:List Item} {σ:List (Nat × Value)} {D:List Deferred} {g:Gr} {η ζ θ:List SProp} {ops:Array Oper} {L:List Nat}
theorem Sat.each {β α:Type} {A:β→α→SProp} {b:β} {a:α} {bs:List β} {as:List α} {m:Fr} (h:Sat (EachP A bs as::A b a::θ) m):Sat (EachP A (bs++[b]) (as++[a])::θ) m:=by
 obtain ⟨h1,h2,d,s1,s2,x,k1,k2,kd,t1,t2,y,z⟩:=h;obtain ⟨h3,u,w⟩:=EachP.snoc (Sat.append (η:=[EachP A bs as]) (ζ:=[A b a]) (Fr.disj_sub d (Fr.sub_refl _) t1) ⟨h1,Fr.emp,Fr.disj_symm (Fr.emp_disj _),Fr.sub_refl _,Fr.emp_sub _,x,trivial⟩ ⟨k1,Fr.emp,Fr.disj_symm (Fr.emp_disj _),Fr.sub_refl _,Fr.emp_sub _,y,trivial⟩);exact ⟨h3,k2,Fr.disj_sub (Fr.disj_add (Fr.disj_sub d (Fr.sub_refl _) t2) kd) u (Fr.sub_refl _),Fr.sub_trans u (Fr.add_sub s1 (Fr.sub_trans t1 s2)),Fr.sub_trans t2 s2,w,z⟩
theorem O.each {β α:Type} {A:β→α→SProp} {b:β} {a:α} {bs:List β} {as:List α} (s1:Sel η (EachP A bs as) ζ) (s2:Sel ζ (A b a) θ) (h:O ro P fn n R ops L k σ D g (EachP A (bs++[b]) (as++[a])::θ)):O ro P fn n R ops L k σ D g η :=
 O.sel s1 (O.imp (η:=EachP A bs as::ζ) (fun _ x=>Sat.each (Sat.cons_imp (fun _ y=>y) (fun _ y=>Sat.perm s2.perm y) x)) h)
theorem S.imp' {todo:List Item} (hs:∀ m,Sat η m→Sat ζ m) (h:S ro P fn n R todo σ D g ζ):S ro P fn n R todo σ D g η:=fun a w hf hd hw=>h a w hf hd (hw.imp hs)
theorem S.each {todo:List Item} {β α:Type} {A:β→α→SProp} {b:β} {a:α} {bs:List β} {as:List α} (s1:Sel η (EachP A bs as) ζ) (s2:Sel ζ (A b a) θ) (h:S ro P fn n R todo σ D g (EachP A (bs++[b]) (as++[a])::θ)):S ro P fn n R todo σ D g η :=
 S.sel s1 (S.imp' (η:=EachP A bs as::ζ) (fun _ x=>Sat.each (Sat.cons_imp (fun _ y=>y) (fun _ y=>Sat.perm s2.perm y) x)) h)
theorem sat_each0 {β α:Type} {A:β→α→SProp} {m:Fr} (h:Sat η m):Sat (EachP A [] []::η) m:=⟨Fr.emp,m,Fr.emp_disj _,Fr.emp_sub _,Fr.sub_refl _,trivial,h⟩
theorem S.each0 {todo:List Item} {β α:Type} (A:β→α→SProp) (h:S ro P fn n R todo σ D g (EachP A [] []::η)):S ro P fn n R todo σ D g η:=S.imp' (fun _=>sat_each0) h
theorem Sat.rows {α:Type} {T:Rp α} {e e' :TypeId} {v:Value} {vs:List Value} {xss:List (List α)} {m:Fr} (h:Sat [OwnP Rp.val e v vs,RowsP T e' vs xss] m):Arr (Rp.slice T) m v xss:=by
 obtain ⟨h1,h2,_,s1,s2,x,h3,_,_,t,_,y,_⟩:=h;exact (x.arr.mono s1).rows (EachP.all2 (fun b a m' z s=>z.arr.mono s) y (Fr.sub_trans t s2))
theorem sat_rows {α:Type} {T:Rp α} {e e' :TypeId} {v:Value} {vs:List Value} {xss:List (List α)} (s1:Sel η (OwnP Rp.val e v vs) ζ) (s2:Sel ζ (RowsP T e' vs xss) θ) (m:Fr) (h:Sat η m):Sat ((fun m=>Arr (Rp.slice T) m v xss)::θ) m:=by
 obtain ⟨h1,h2,d,t1,t2,x,y⟩:=Sat.perm s1.perm h;obtain ⟨k1,k2,kd,u1,u2,p,q⟩:=Sat.perm s2.perm y;refine ⟨h1.add k1,k2,Fr.disj_add (Fr.disj_sub d (Fr.sub_refl _) u2) kd,Fr.add_sub t1 (Fr.sub_trans u1 t2),Fr.sub_trans u2 t2,?_,q⟩;exact Sat.rows (Sat.append (η:=[OwnP Rp.val e v vs]) (ζ:=[RowsP T e' vs xss]) (Fr.disj_sub d (Fr.sub_refl _) u1) ⟨h1,Fr.emp,Fr.disj_symm (Fr.emp_disj _),Fr.sub_refl _,Fr.emp_sub _,x,trivial⟩ ⟨k1,Fr.emp,Fr.disj_symm (Fr.emp_disj _),Fr.sub_refl _,Fr.emp_sub _,p,trivial⟩)
theorem S.retCellAgg {tt b:Nat} {ty T:TypeId} {cs:List Value} (hr:fn.results=#[.cell tt ty]) (hty:∀ w,(isAgg ty).run P w=.ok true w) (hsz:(P.info? ty).map (·.size)=some cs.length) (hl:look σ tt=some (.pointer (some ⟨b,0,none⟩))) (hs:Sel η (obj b T cs) ζ)
  (h:∀ w,Holds w g (obj b T cs::ζ)→R (.returned (.agg cs.toArray)) w):S none P fn n R (.code .ret::k) σ [] g η:=by
 refine S.retL fun a w hf hd hw=>?_;have hw' :=hw.sel hs;refine ⟨.agg cs.toArray,?_,h w hw'⟩;have hc0:=run_loadCells_list (P:=P) w ⟨b,0,none⟩ cs fun j v hj=>by
  rw [add_lit];exact hw'.obj_cell (by simpa using hj)
 have hl' :=hf.2 tt _ hl
 simp [results,hr,Array.getD_eq_getD_getElem?,hl',asAddr,loadVar,hty,run_sizeOf hsz,hc0]
theorem O.frzR {α:Type} {T:Rp α} {e e' :TypeId} {v:Value} {vs:List Value} {xss:List (List α)} (s1:Sel η (OwnP Rp.val e v vs) ζ) (s2:Sel ζ (RowsP T e' vs xss) θ) (h:∀ g' :Gr,g.h.sub g'.h→(∀ w ζ,Holds w g' ζ→Holds w g ζ)→Arr (Rp.slice T) g'.h v xss→O ro P fn n R ops L k σ D g' θ):O ro P fn n R ops L k σ D g η :=
 O.imp (sat_rows s1 s2) (O.frzW Sel.here h)
end
section
variable {ro:Option Nat} {P:Program} {σ:List (Nat × Value)} {g:Gr} {η ζ:List SProp} {fn:Func} {n:Nat} {R:Ending→World→Prop} {k:List Item} {D:List Deferred} {ops:Array Oper} {i d:Nat} {l:List Nat}
 {t e:TypeId} {x y z:Operand} {v:Value} {ka kb:IntKind} {za zb:Int} {a b:Nat} {α:Type} {T:Rp α} {xs:List α} {r:Fr}
theorem Con.lentD {f:FuncId} {args:Array Value} {h:Fr} {bs:List SProp} {Post:Ending→List SProp→Prop} (con:∀ m:Fr,Sat bs m→h.disj m→Con P f args (h.add m) η Post) :
  Con P f args h (η++bs) Post:=fun g hg w hw=>by
 obtain ⟨m,hm,hd,hw'⟩:=Holds.freezeAll (η:=η) (ζ:=bs) hw;have hd' :h.disj m:=Fr.disj_sub hd hg (Fr.sub_refl _);exact (con m hm hd' (g.add m) (Fr.add_sub (Fr.sub_trans hg (Fr.sub_add_left _ _)) (Fr.sub_add_right hd)) w hw').mono fun e w' ⟨η',x,y⟩=>⟨η',x,y.melt hd⟩
theorem O.callSs {f:FuncId} {xs:Array Operand} {ts:Array TypeId} {vals:List Value} {K' :Value→List SProp→Prop} {first cap:Array Value} (ho:Fires ops i n σ d (.call ⟨.value x,xs,ts⟩)) (hx:ev σ x=some (.func (.func f) first cap)) (hc:callable P f=true)
  (hv:evs σ xs.toList=some vals) {args:Array Value} (hargs:first++vals.toArray++cap=args) {bs:List SProp} (hb:Sels η bs ζ) (con:Con P f args g.h bs (Ret K'))
  (h:∀ v η',K' v η' →O ro P fn n R ops l k ((d,v)::σ) D g (η' ++ζ)):O ro P fn n R ops (i::l) k σ D g η :=
 fun a w hf hd hw=>O.call (ζ:=ζ) ho hx hc hv hargs con h a w hf hd (hw.perm hb.perm)
theorem ODg.callSs {f:FuncId} {xs:Array Operand} {ts:Array TypeId} {vals:List Value} {K' :Value→List SProp→Prop} {first cap:Array Value} (ho:Fires ops i n σ d (.call ⟨.value x,xs,ts⟩)) {fl:Bool} (hd:hdOk fl ops i l=true) (hx:ev σ x=some (.func (.func f) first cap)) (hc:callable P f=true)
  (hv:evs σ xs.toList=some vals) {args:Array Value} (hargs:first++vals.toArray++cap=args) {bs:List SProp} (hb:Sels η bs ζ) (con:Con P f args g.h bs (Ret K'))
  (h:∀ v η',K' v η' →OD P fn n R ops k D g l ((d,v)::σ) (η' ++ζ)):ODx P fn n R ops k D g fl (i::l) σ η :=
 ODx.perm hb.perm (ODg.call (ζ:=ζ) ho hd hx hc hv hargs con h)
theorem OD.callSs {f:FuncId} {xs:Array Operand} {ts:Array TypeId} {vals:List Value} {K' :Value→List SProp→Prop} {first cap:Array Value} (ho:Fires ops i n σ d (.call ⟨.value x,xs,ts⟩)) (hd:descOk ops [i] l=true) (hx:ev σ x=some (.func (.func f) first cap)) (hc:callable P f=true) (hv:evs σ xs.toList=some vals) {args:Array Value} (hargs:first++vals.toArray++cap=args) {bs:List SProp} (hb:Sels η bs ζ) (con:Con P f args g.h bs (Ret K')) (h:∀ v η',K' v η' →OD P fn n R ops k D g l ((d,v)::σ) (η' ++ζ)):OD P fn n R ops k D g (i::l) σ η:=ODg.callSs (fl:=false) ho (by simpa [hdOk] using hd) hx hc hv hargs hb con h
theorem OD.sliceTo (ho:Fires ops i n σ d (.slice t x none (some y) none)) (ht:P.underlying t=some (.slice e)) (he:(P.info? e).map (·.size)=some T.k) (hx:ev σ x=some v) (hy:ev σ y=some (.int kb zb)) (hs:Arr T r v xs) (hz:zb=(b:Int)) (hb:b≤xs.length)
  (h:∀ u,Arr T r u (xs.take b)→OD P fn n R ops k D g l ((d,u)::σ) η):OD P fn n R ops k D g (i::l) σ η:=by
 subst hz;obtain ⟨u,h1,h2⟩:=slice_does (g:=g) (a:=0) (b:=b) (kl:=.i64) ht he hx (lo:=none) (hi:=some y) (fun _ h=>nomatch h) (fun _=>rfl) (fun _ h=>by cases h;exact hy) (fun h=>nomatch h) hs (Nat.zero_le _) hb;exact .quiet ho rfl h1 (h u h2)
theorem OD.sliceFrom (ho:Fires ops i n σ d (.slice t x (some y) none none)) (ht:P.underlying t=some (.slice e)) (he:(P.info? e).map (·.size)=some T.k) (hx:ev σ x=some v) (hy:ev σ y=some (.int ka za)) (hs:Arr T r v xs) (hz:za=(a:Int)) (ha:a≤xs.length)
  (h:∀ u,Arr T r u (xs.drop a)→OD P fn n R ops k D g l ((d,u)::σ) η):OD P fn n R ops k D g (i::l) σ η:=by
 subst hz;obtain ⟨u,h1,h2⟩:=slice_does (g:=g) (a:=a) (b:=xs.length) (kh:=.i64) ht he hx (lo:=some y) (hi:=none) (fun _ h=>by cases h;exact hy) (fun h=>nomatch h) (fun _ h=>nomatch h) (fun _=>rfl) hs ha (Nat.le_refl _);exact .quiet ho rfl h1 (h u (by rw [List.take_length] at h2;exact h2))
theorem ODg.storeObj {t T:TypeId} {x y:Operand} {b i:Nat} {cs news:List Value} {v:Value} {j:Nat} (ho:opAtU ops j=some (.store t x y)) {fl:Bool} (hd:hdOk fl ops j l=true) (hsz:(P.info? t).map (·.size)=some news.length) (hx:ev σ x=some (.pointer (some ⟨b,i,none⟩))) (hy:ev σ y=some v)
  (hv:v.cells.toList=news) (h1:news.all (·.oneCell')=true) (hs:Sel η (obj b T cs) ζ) (hl:i+news.length≤cs.length)
  (h:OD P fn n R ops k D g l σ (obj b T (cs.take i++news++cs.drop (i+news.length))::ζ)):ODx P fn n R ops k D g fl (j::l) σ η :=
 ODx.perm hs.perm (ODg.loudU (η:=obj b T cs::ζ) (η' :=obj b T (cs.take i++news++cs.drop (i+news.length))::ζ) ho rfl hd (fun _=>.storeObj hsz hx hy hv h1 Sel.here hl) h)
theorem OD.storeObj {t T:TypeId} {x y:Operand} {b i:Nat} {cs news:List Value} {v:Value} {j:Nat} (ho:opAtU ops j=some (.store t x y)) (hd:descOk ops [j] l=true) (hsz:(P.info? t).map (·.size)=some news.length) (hx:ev σ x=some (.pointer (some ⟨b,i,none⟩))) (hy:ev σ y=some v) (hv:v.cells.toList=news) (h1:news.all (·.oneCell')=true) (hs:Sel η (obj b T cs) ζ) (hl:i+news.length≤cs.length) (h:OD P fn n R ops k D g l σ (obj b T (cs.take i++news++cs.drop (i+news.length))::ζ)):OD P fn n R ops k D g (j::l) σ η:=ODg.storeObj (fl:=false) ho (by simpa [hdOk] using hd) hsz hx hy hv h1 hs hl h
theorem ODg.store1 {t T:TypeId} {x y:Operand} {b i:Nat} {cs:List Value} {v:Value} {j:Nat} (ho:opAtU ops j=some (.store t x y)) {fl:Bool} (hd:hdOk fl ops j l=true) (ht:flat1 P t=true) (hx:ev σ x=some (.pointer (some ⟨b,i,none⟩))) (hy:ev σ y=some v)
  (h1:v.oneCell' =true) (hs:Sel η (obj b T cs) ζ) (hl:i<cs.length)
  (h:OD P fn n R ops k D g l σ (obj b T (cs.set i v)::ζ)):ODx P fn n R ops k D g fl (j::l) σ η :=
 ODx.perm hs.perm (ODg.loudU (η:=obj b T cs::ζ) (η' :=obj b T (cs.set i v)::ζ) ho rfl hd (fun _=>.store1 ht hx hy h1 Sel.here hl) h)
theorem OD.store1 {t T:TypeId} {x y:Operand} {b i:Nat} {cs:List Value} {v:Value} {j:Nat} (ho:opAtU ops j=some (.store t x y)) (hd:descOk ops [j] l=true) (ht:flat1 P t=true) (hx:ev σ x=some (.pointer (some ⟨b,i,none⟩))) (hy:ev σ y=some v) (h1:v.oneCell' =true) (hs:Sel η (obj b T cs) ζ) (hl:i<cs.length) (h:OD P fn n R ops k D g l σ (obj b T (cs.set i v)::ζ)):OD P fn n R ops k D g (j::l) σ η:=ODg.store1 (fl:=false) ho (by simpa [hdOk] using hd) ht hx hy h1 hs hl h
end
end Go.Sp
end
section
/- Texts of this proof, one behind the other. -/
section
/- Texts of this proof, one behind the other. -/
section
/- Texts of this proof, one behind the other. -/
section
/- Texts of this proof, one behind the other. -/
section
/- Texts of this proof. -/
namespace Go.Sp
section
variable {P:Program} {σ:List (Nat × Value)} {g:Gr} {η ζ θ:List SProp}
def Two {α:Type} (T:Rp α) (e:TypeId) (v:Value) (xs:List α) (u:Value) (ys:List α):SProp:=fun h =>
 (∃ a c,v=.slice a xs.length c∧u=.slice a (xs.length+ys.length) c∧OwnP T e u (xs++ys) h)∨Sat [OwnP T e u (xs++ys),OwnP T e v xs] h
theorem OwnP.take {α:Type} {T:Rp α} {e:TypeId} {a:Option Addr} {n m c:Nat} {xs ys:List α} {h:Fr} (hn:n=xs.length) (x:OwnP T e (.slice a m c) (xs++ys) h):OwnP T e (.slice a n c) xs h:=by
 subst hn;obtain ⟨css,h1,h2,h3⟩:=x;have hl:css.length=xs.length+ys.length:=by rw [h1.length];simp
 have ht:=h1.take xs.length;rw [List.take_left'] at ht
 ·refine ⟨css.take xs.length,ht,?_,?_⟩
  ·rw [← h1.flat_take,List.length_take,h2,List.length_append];exact Nat.min_eq_left (Nat.mul_le_mul_right _ (by omega))
  ·rcases h3 with ⟨h4,h5⟩|⟨b,cap,cur,h4,h5,h6,h7,h8,h9⟩
   ·cases h4
    simp at h5
    exact .inl ⟨by rw [h5.1];rfl,by rw [h5.1];rfl⟩
   ·cases h4
    refine .inr ⟨b,c,cur,rfl,h5,?_,h7,h8,?_⟩
    ·rw [List.length_append] at h6;omega
    ·rw [← h1.flat_take,← h9,List.take_take,List.length_append,Nat.min_eq_left (Nat.mul_le_mul_right _ (by omega))]
 ·rfl
end
end Go.Sp
end
section
/- Texts of this proof. -/
namespace Go.Sp
theorem EachP.len {β α:Type} {A:β→α→SProp}:∀ {bs:List β} {as:List α} {h:Fr},EachP A bs as h→bs.length=as.length
 |[],[],_,_=>rfl
 |[],_::_,_,h=>h.elim
 |_::_,[],_,h=>h.elim
 |_::_,_::_,_,h=>by
  have h' :Sat [_,EachP _ _ _] _:=h;obtain ⟨_,_,_,_,_,_,_,_,_,_,_,q,_⟩:=h'
  simp [EachP.len q]
theorem Sat.join2 {A B C:SProp} {θ:List SProp} (hs:∀ m,Sat [A,B] m→C m):∀ {m:Fr},Sat (A::B::θ) m→Sat (C::θ) m:=by
 rintro m ⟨h1,h2,d,s1,s2,x,k1,k2,kd,t1,t2,y,z⟩;refine ⟨h1.add k1,k2,Fr.disj_add (Fr.disj_sub d (Fr.sub_refl _) t2) kd,Fr.add_sub s1 (Fr.sub_trans t1 s2),Fr.sub_trans t2 s2,hs _ ?_,z⟩;have d2:h1.disj k1:=Fr.disj_sub d (Fr.sub_refl _) t1;exact ⟨h1,k1,d2,Fr.sub_add_left _ _,Fr.sub_add_right d2,x,k1,Fr.emp,Fr.disj_symm (Fr.emp_disj _),Fr.sub_refl _,Fr.emp_sub _,y,trivial⟩
section
variable {ro:Option Nat} {P:Program} {fn:Func} {n:Nat} {R:Ending→World→Prop} {k:List Item} {σ:List (Nat × Value)} {D:List Deferred} {g:Gr} {η ζ θ:List SProp} {ops:Array Oper} {L:List Nat} {β α:Type} {A:β→α→SProp} {todo:List Item}
theorem S.conv {B C:SProp} (s:Sel η B ζ) (hc:∀ m,B m→∃ h:Fr,h.sub m∧C h) (h:S ro P fn n R todo σ D g (C::ζ)):S ro P fn n R todo σ D g η :=
 S.sel s (S.imp' (η:=B::ζ) (ζ:=C::ζ) (fun _ ⟨_,h2,d,s1,s2,x,y⟩=>let ⟨h3,u,z⟩:=hc _ x;⟨h3,h2,Fr.disj_sub d u (Fr.sub_refl _),Fr.sub_trans u s1,s2,z,y⟩) h)
theorem S.factS {B:SProp} {p:Prop} (s:Sel η B ζ) (hs:∀ m,B m→p) (h:p→S ro P fn n R todo σ D g η):S ro P fn n R todo σ D g η :=
 fun a w hf hd hw=>by
  obtain ⟨_,_,_,_,_,_,_,_,_,_,_,_,hB,_⟩:=hw.sel s;exact h (hs _ hB) a w hf hd hw
end
end Go.Sp
end
end
section
/- Texts of this proof. -/
namespace Go.Sp
section
variable {P:Program} {σ:List (Nat × Value)} {g:Gr} {η ζ:List SProp} {t e:TypeId} {x:Operand}
theorem run_byteLoop (P:Program) (w:World) (f:Value→ByteArray→Sem (ForInStep ByteArray)) (hf:∀ (b:UInt8) s,f (byteV b) s=.pure (.yield (s.push b))):∀ (xs:List UInt8) (s:ByteArray),
  (forIn (xs.map byteV) s f:Sem ByteArray).run P w=.ok (⟨s.data++xs.toArray⟩) w
 |[],s=>by simp [forIn]
 |b::xs,s=>by
  have:=run_byteLoop P w f hf xs (s.push b);rw [List.map_cons,List.forIn_cons,hf];simp only [Sem.run_bind,Sem.run,Result.andThen_ok];rw [this];simp
theorem Does.toStr {v:Value} {xs:List UInt8} (ht:P.underlying t=some (.slice e)) (he:P.underlying e=some (.int .u8)) {t2:TypeId} (ht2:P.underlying t2=some .string) (hx:ev σ x=some v) (hs:Arr Rp.u8 g.h v xs) :
  Does P (.convert t t2 x) σ g η (.string (str xs)) η :=
 fun o ρ w ho hk hw=>by
  refine ⟨w,?_,hw⟩;obtain ⟨css,ha,a,cap,rfl,h1,h2,h3,h4⟩:=hs
  cases a with
  |none =>
   obtain ⟨rfl,_⟩:=Arr.nil_of (T:=Rp.u8) (xs:=xs) (by decide) ⟨css,ha,none,cap,rfl,h1,h2,h3,h4⟩
   simp [execOp,ho,hk x _ hx,convert,run_underlying ht,run_underlying he,run_underlying ht2,Conv.bytesToString]
   rfl
  |some a =>
   have hcs:css.flatten=xs.map byteV:=by
    clear h1 h2 h3 h4 hx
    induction css generalizing xs with
    |nil=>cases xs with
     |nil=>rfl
     |cons _ _=>exact ha.elim
    |cons c css ih=>cases xs with
     |nil=>exact ha.elim
     |cons b xs=>rw [List.flatten_cons,ih ha.2,show c=[byteV b] from ha.1];rfl
   have hr:=run_loadCells_list (P:=P) w a css.flatten fun j v hj=>by
    obtain ⟨hj',rfl⟩:=List.getElem?_eq_some_iff.1 hj;obtain ⟨p,hp,hc⟩:=h4 j hj'
    cases hp
    exact Fr.cell_mono hw.ground hc
   have hlen:css.flatten.length=xs.length:=by rw [hcs];simp
   rw [hlen] at hr
   simp [execOp,ho,hk x _ hx,convert,run_underlying ht,run_underlying he,run_underlying ht2,Conv.bytesToString,hr]
   rw [hcs,run_byteLoop P w _ (fun b s=>by simp [byteV];rfl)];have e0:(⟨ByteArray.empty.data++xs.toArray⟩:ByteArray)=str xs:=by
    show (⟨#[]++xs.toArray⟩:ByteArray)=_
    simp [str]
   rw [e0];rfl
end
end Go.Sp
end
end
section
/- Texts of this proof. -/
namespace Go.Sp
def u64 (n:Int):Nat:=(n % 18446744073709551616).toNat
def beAt (n:Int) (i:Nat):UInt8:=UInt8.ofNat (u64 n / 256 ^ i)
def be (n:Int):List UInt8:=[beAt n 7,beAt n 6,beAt n 5,beAt n 4,beAt n 3,beAt n 2,beAt n 1,beAt n 0]
@[simp] theorem be_length (n:Int):(be n).length=8:=rfl
theorem be_get (n:Int) (i:Nat) (h:i<8):(be n)[7 - i]?=some (beAt n i):=by
 match i,h with
 |0,_|1,_|2,_|3,_|4,_|5,_|6,_|7,_=>rfl
theorem u64_lt (n:Int):u64 n<18446744073709551616:=by unfold u64;omega
theorem wrap_u64_eq (n:Int):IntKind.u64.wrap n=(u64 n:Int):=by
 have:IntKind.u64.wrap n=n % 18446744073709551616:=by simp [IntKind.wrap,IntKind.bits,IntKind.signed]
 rw [this];unfold u64;omega
theorem wrap_u8_eq (n:Int):IntKind.u8.wrap n=n % 256:=by simp [IntKind.wrap,IntKind.bits,IntKind.signed]
theorem shift_byte (n:Int) (i:Nat) (h:i<8) (z:Int) (hz:z=8*(i:Int)):IntKind.u8.wrap ((IntKind.u64.wrap n).fdiv (2 ^ min z.toNat IntKind.u64.bits))=((beAt n i).toNat:Int):=by
 subst hz;have e1:min (8*(i:Int)).toNat IntKind.u64.bits=8*i:=by simp [IntKind.bits];omega
 rw [e1,wrap_u64_eq,wrap_u8_eq];have e2:((2:Int) ^ (8*i))=((256 ^ i:Nat):Int):=by
  rw [Int.pow_mul,Int.natCast_pow];rfl
 rw [e2];have e3:((u64 n:Nat):Int).fdiv ((256 ^ i:Nat):Int)=((u64 n / 256 ^ i:Nat):Int):=by
  rw [Int.fdiv_eq_ediv_of_nonneg _ (Int.natCast_nonneg _)];rfl
 rw [e3];unfold beAt;have:(UInt8.ofNat (u64 n / 256 ^ i)).toNat=u64 n / 256 ^ i % 256:=by simp
 rw [this];omega
def beVal (xs:List UInt8):Nat:=xs.foldl (fun n c=>n*256+c.toNat) 0
theorem beVal_snoc (xs:List UInt8) (c:UInt8):beVal (xs++[c])=beVal xs*256+c.toNat:=by simp [beVal]
theorem pow256_succ (n:Nat):256 ^ (n+1)=256 ^ n*256:=Nat.pow_succ ..
theorem beVal_take (xs:List UInt8) (i:Nat) (h:i<xs.length):beVal (xs.take (i+1))=beVal (xs.take i)*256+xs[i].toNat:=by
 rw [List.take_succ_eq_append_getElem h,beVal_snoc]
theorem beVal_lt (xs:List UInt8) (i:Nat):beVal (xs.take i)<256 ^ i:=by
 induction i with
 |zero=>simp [beVal]
 |succ i ih =>
  by_cases h:i<xs.length
  ·rw [beVal_take xs i h,pow256_succ]
   have:=xs[i].toNat_lt
   omega
  ·have e:xs.take (i+1)=xs.take i:=by rw [List.take_of_length_le (by omega),List.take_of_length_le (by omega)]
   rw [e,pow256_succ];omega
theorem beVal_lt7 (xs:List UInt8) (i:Nat) (hi:i<8):beVal (xs.take i)<72057594037927936 :=
 Nat.lt_of_lt_of_le (beVal_lt xs i) (Nat.le_trans (Nat.pow_le_pow_right (by decide) (show i≤7 by omega)) (by decide))
theorem or_byte (n:Nat) (c:UInt8) (hn:n<72057594037927936) :
  bitsOf .or .u64 (IntKind.u64.wrap ((n:Int)*2 ^ min (8:Int).toNat IntKind.u64.bits)) (IntKind.u64.wrap (c.toNat:Int))=((n*256+c.toNat:Nat):Int):=by
 have hc:=c.toNat_lt;have e0:((n:Int)*2 ^ min (8:Int).toNat IntKind.u64.bits)=((n*256:Nat):Int):=by simp [IntKind.bits]
 have w:∀ k:Nat,k<18446744073709551616→IntKind.u64.wrap (k:Int)=k:=fun k h=>by rw [wrap_u64_eq];unfold u64;omega
 rw [e0, w _ (by omega), w _ (by omega)];have e1 : (n * 256) ||| c.toNat = n * 256 + c.toNat := by
  have:=Nat.shiftLeft_add_eq_or_of_lt (b:=c.toNat) (i:=8) (by omega) n;rw [Nat.shiftLeft_eq] at this;exact this.symm
 have e2:∀ k:Nat,k<18446744073709551616→(BitVec.ofInt IntKind.u64.bits (k:Int)).toNat=k:=fun k h=>by rw [BitVec.toNat_ofInt];simp only [IntKind.bits];omega
 simp only [bitsOf,BitVec.toNat_or];rw [e2 _ (by omega),e2 _ (by omega),e1,w _ (by omega)]
def s64 (n:Nat):Int:=if n<9223372036854775808 then n else n - 18446744073709551616
theorem wrap_i64_eq (n:Nat) (h:n<18446744073709551616):IntKind.i64.wrap (n:Int)=s64 n:=by
 rw [IntKind.wrap_i64];unfold s64;split<;>omega
theorem s64_in (n:Nat) (h:n<18446744073709551616):InI64 (s64 n):=by unfold s64 InI64;split<;>omega
theorem beVal_be (n:Int):beVal (be n)=u64 n:=by
 have h:=u64_lt n;simp only [beVal,be,List.foldl_cons,List.foldl_nil,beAt,UInt8.toNat_ofNat'];generalize u64 n=k at h ⊢;simp only [show (256:Nat)^7=72057594037927936 from rfl,show (256:Nat)^6=281474976710656 from rfl,show (256:Nat)^5=1099511627776 from rfl,show (256:Nat)^4=4294967296 from rfl,show (256:Nat)^3=16777216 from rfl,show (256:Nat)^2=65536 from rfl,show (256:Nat)^1=256 from rfl,show (256:Nat)^0=1 from rfl]
 omega
theorem s64_be (n:Int) (h:InI64 n):s64 (beVal (be n))=n:=by
 rw [beVal_be];unfold s64 u64;unfold InI64 at h;split<;>omega
def bytesOf (xs:List UInt8):List UInt8:=be xs.length++xs
@[simp] theorem bytesOf_length (xs:List UInt8):(bytesOf xs).length=8+xs.length:=by simp [bytesOf]
end Go.Sp
end
end
section
/- Texts of this proof. -/
namespace Go.Sp
section
variable {ro:Option Nat} {P:Program} {fn:Func} {n:Nat} {R:Ending→World→Prop} {k:List Item} {σ:List (Nat × Value)} {D:List Deferred} {g:Gr} {η ζ θ:List SProp} {ops:Array Oper} {L l:List Nat} {i d:Nat} {t e:TypeId} {x y z:Operand} {α:Type} {T:Rp α}
theorem S.unroll {c:Code} (h:S ro P fn n R (.code c::.inLoop c::k) σ D g η):S ro P fn n R (.code (.loop c)::k) σ D g η :=
 S.loop (fun _:Unit=>True) (fun _=>σ) (fun _=>η) (fun _=>0) () trivial Sub.refl rfl fun _ _ _=>h
theorem Arr.cut {h:Fr} {a:Option Addr} {c m:Nat} {xs ys:List α} (hm:m=xs.length) (x:Arr T h (.slice a (xs.length+ys.length) c) (xs++ys)):Arr T h (.slice a m c) xs:=by
 subst hm;obtain ⟨css,ha,a',cap,hv,h1,h2,h3,h4⟩:=x
 injection hv with e1 e2 e3;subst e1 e3
 have hl:css.length=xs.length+ys.length:=by rw [ha.length];simp
 have ht:=ha.take xs.length;rw [List.take_left' rfl] at ht;have he:(css.take xs.length).flatten=css.flatten.take (xs.length*T.k):=(ha.flat_take _).symm;refine ⟨css.take xs.length,ht,a,c,rfl,by rw [List.length_append] at h1;omega,⟨h2.1,h2.2⟩,?_,?_⟩
 ·rw [he,List.length_take,h3,List.length_append];exact Nat.min_eq_left (Nat.mul_le_mul_right _ (by omega))
 ·intro j hj
  have hj' :j<css.flatten.length:=by rw [he,List.length_take] at hj;omega
  obtain ⟨p,hp,hc⟩:=h4 j hj';refine ⟨p,hp,?_⟩;rw [hc];simp [he]
theorem Does.sliceTo0 {kb:IntKind} {a:Option Addr} {m c q:Nat} {zb:Int} (ht:P.underlying t=some (.slice e)) (he:(P.info? e).map (·.size)=some T.k) (hx:ev σ x=some (.slice a m c)) (hy:ev σ y=some (.int kb zb)) (hz:zb=(q:Int)) (hq:q≤c) :
  Does P (.slice t x none (some y) none) σ g η (.slice a q c) η :=
 fun o ρ w ho hk hw=>⟨w,by
  subst hz
  cases a<;>simp [execOp,ho,hk x _ hx,hk y _ hy,Instr.sliceAt,run_underlying ht,Instr.slice,Instr.sliceBounds,Instr.sliceBound,asIntOf,hq,run_sizeOf he,Addr.add],hw⟩
theorem O.slice0 {kb:IntKind} {a:Option Addr} {m c q:Nat} {zb:Int} (T:Rp α) (ho:Fires ops i n σ d (.slice t x none (some y) none)) (ht:P.underlying t=some (.slice e)) (he:(P.info? e).map (·.size)=some T.k) (hx:ev σ x=some (.slice a m c)) (hy:ev σ y=some (.int kb zb)) (hz:zb=(q:Int)) (hq:q≤c)
  (h:O ro P fn n R ops l k ((d,.slice a q c)::σ) D g η):O ro P fn n R ops (i::l) k σ D g η:=O.op ho (Does.sliceTo0 (T:=T) ht he hx hy hz hq) h
theorem Arr.room {h:Fr} {a:Option Addr} {c m:Nat} {xs:List α} (x:Arr T h (.slice a m c) xs):m=xs.length∧m≤c:=by
 obtain ⟨_,_,a',cap,hv,h1,_⟩:=x
 cases hv;exact ⟨rfl,h1⟩
theorem OwnP.room {h:Fr} {a:Option Addr} {c m:Nat} {xs:List α} (x:OwnP T e (.slice a m c) xs h):m=xs.length∧m≤c:=x.arr.room
theorem Does.min2 {kd:IntKind} {a b:Int} (hx:ev σ x=some (.int kd a)) (hy:ev σ y=some (.int kd b)) :
  Does P (.call ⟨.builtin .min,#[x,y],#[t,t]⟩) σ g η (.int kd (if b<a then b else a)) η :=
 fun o ρ w ho hk hw=>⟨w,by
  simp [execOp,ho,hk x _ hx,hk y _ hy,resolve,invoke,builtin,Builtin.min_,Builtin.min2],hw⟩
theorem Sel.app {η ζ θ:List SProp} {A:SProp} (s:Sel η A ζ):Sel (η++θ) A (ζ++θ):=by
 induction s with
 |here=>exact .here
 |there _ ih=>exact .there ih
theorem ODg.litP {fl:Bool} {by_ len:Nat} {z:List Value} {parts:Array (Nat × Operand)} {vs:List Value} {ys:List α} (ho:Fires ops i n σ d (.buildSlice t len parts)) (hd:hdOk fl ops i l=true) (ht:P.underlying t=some (.slice e)) (he:elemIs P e T.k by_ z) (hk:0<T.k)
  (hp:partsOf σ parts.toList 0=some vs) (hlen:parts.toList.length=len) (hvs:All2 (T.rel Fr.emp) (vs.map (·.cells.toList)) ys) (h24:len*T.k≤16777216)
  (h:∀ a c,OD P fn n R ops k D g l ((d,.slice a len c)::σ) (OwnP T e (.slice a len c) ys::η)):ODx P fn n R ops k D g fl (i::l) σ η :=
 ODg.loudE (K:=fun v η' =>∃ a c,v=.slice a len c∧η' =OwnP T e v ys::η) ho rfl hd (fun _=>(DoesE.litP ht he hk hp hlen hvs h24).imp fun _ _ ⟨a,c,h1,h2⟩=>⟨_,⟨a,c,h1,rfl⟩,h2⟩)
  fun _ _ ⟨a,c,h1,h2⟩=>by subst h1;subst h2;exact h a c
theorem OD.litP {by_ len:Nat} {z:List Value} {parts:Array (Nat × Operand)} {vs:List Value} {ys:List α} (ho:Fires ops i n σ d (.buildSlice t len parts)) (hd:descOk ops [i] l=true) (ht:P.underlying t=some (.slice e)) (he:elemIs P e T.k by_ z) (hk:0<T.k) (hp:partsOf σ parts.toList 0=some vs) (hlen:parts.toList.length=len) (hvs:All2 (T.rel Fr.emp) (vs.map (·.cells.toList)) ys) (h24:len*T.k≤16777216) (h:∀ a c,OD P fn n R ops k D g l ((d,.slice a len c)::σ) (OwnP T e (.slice a len c) ys::η)):OD P fn n R ops k D g (i::l) σ η:=ODg.litP (fl:=false) ho (by simpa [hdOk] using hd) ht he hk hp hlen hvs h24 h
theorem ODt.litP {by_ len:Nat} {z:List Value} {parts:Array (Nat × Operand)} {vs:List Value} {ys:List α} (ho:Fires ops i n σ d (.buildSlice t len parts)) (_:true=true) (ht:P.underlying t=some (.slice e)) (he:elemIs P e T.k by_ z) (hk:0<T.k) (hp:partsOf σ parts.toList 0=some vs) (hlen:parts.toList.length=len) (hvs:All2 (T.rel Fr.emp) (vs.map (·.cells.toList)) ys) (h24:len*T.k≤16777216) (h:∀ a c,OD P fn n R ops k D g l ((d,.slice a len c)::σ) (OwnP T e (.slice a len c) ys::η)):ODx P fn n R ops k D g true (i::l) σ η:=ODg.litP (fl:=true) ho rfl ht he hk hp hlen hvs h24 h
theorem ODg.appendO {fl:Bool} {by_:Nat} {z:List Value} {v u:Value} {xs ys:List α} (ho:Fires ops i n σ d (.call ⟨.builtin .append,#[x,y],#[t,t]⟩)) (hd:hdOk fl ops i l=true) (ht:P.underlying t=some (.slice e)) (he:elemIs P e T.k by_ z) (hk:0<T.k) (hx:ev σ x=some v) (hy:ev σ y=some u)
  (hl:Sel η (OwnP T e u ys) θ) (hs:Sel θ (OwnP T e v xs) ζ) (hb:(xs.length+ys.length)*by_≤140737488355328) (h63:xs.length+ys.length≤9223372036854775807)
  (h:∀ a c,OD P fn n R ops k D g l ((d,.slice a (xs.length+ys.length) c)::σ) (OwnP T e (.slice a (xs.length+ys.length) c) (xs++ys)::ζ)):ODx P fn n R ops k D g fl (i::l) σ η :=
 ODg.loudE (K:=fun v' η' =>∃ a c,v' =.slice a (xs.length+ys.length) c∧η' =OwnP T e v' (xs++ys)::ζ) ho rfl hd (fun _=>(DoesE.appendO ht he hk hx hy hl.app hs.app hb h63).imp fun _ _ ⟨a,c,h1,h2⟩=>⟨_,⟨a,c,h1,rfl⟩,h2⟩)
  fun _ _ ⟨a,c,h1,h2⟩=>by subst h1;subst h2;exact h a c
theorem OD.appendO {by_:Nat} {z:List Value} {v u:Value} {xs ys:List α} (ho:Fires ops i n σ d (.call ⟨.builtin .append,#[x,y],#[t,t]⟩)) (hd:descOk ops [i] l=true) (ht:P.underlying t=some (.slice e)) (he:elemIs P e T.k by_ z) (hk:0<T.k) (hx:ev σ x=some v) (hy:ev σ y=some u) (hl:Sel η (OwnP T e u ys) θ) (hs:Sel θ (OwnP T e v xs) ζ) (hb:(xs.length+ys.length)*by_≤140737488355328) (h63:xs.length+ys.length≤9223372036854775807) (h:∀ a c,OD P fn n R ops k D g l ((d,.slice a (xs.length+ys.length) c)::σ) (OwnP T e (.slice a (xs.length+ys.length) c) (xs++ys)::ζ)):OD P fn n R ops k D g (i::l) σ η:=ODg.appendO (fl:=false) ho (by simpa [hdOk] using hd) ht he hk hx hy hl hs hb h63 h
theorem ODg.appendP {fl:Bool} {by_:Nat} {z:List Value} {v u:Value} {xs ys:List α} (ho:Fires ops i n σ d (.call ⟨.builtin .append,#[x,y],#[t,t]⟩)) (hd:hdOk fl ops i l=true) (hT:T.Pure) (ht:P.underlying t=some (.slice e)) (he:elemIs P e T.k by_ z) (hk:0<T.k) (hx:ev σ x=some v) (hy:ev σ y=some u)
  (hs:Sel η (OwnP T e v xs) ζ) (hu:Arr T g.h u ys) (hb:(xs.length+ys.length)*by_≤140737488355328) (h63:xs.length+ys.length≤9223372036854775807)
  (h:∀ a c,OD P fn n R ops k D g l ((d,.slice a (xs.length+ys.length) c)::σ) (OwnP T e (.slice a (xs.length+ys.length) c) (xs++ys)::ζ)):ODx P fn n R ops k D g fl (i::l) σ η :=
 ODg.loudE (K:=fun v' η' =>∃ a c,v' =.slice a (xs.length+ys.length) c∧η' =OwnP T e v' (xs++ys)::ζ) ho rfl hd (fun _=>(DoesE.appendP hT ht he hk hx hy hs.app hu hb h63).imp fun _ _ ⟨a,c,h1,h2⟩=>⟨_,⟨a,c,h1,rfl⟩,h2⟩)
  fun _ _ ⟨a,c,h1,h2⟩=>by subst h1;subst h2;exact h a c
theorem OD.appendP {by_:Nat} {z:List Value} {v u:Value} {xs ys:List α} (ho:Fires ops i n σ d (.call ⟨.builtin .append,#[x,y],#[t,t]⟩)) (hd:descOk ops [i] l=true) (hT:T.Pure) (ht:P.underlying t=some (.slice e)) (he:elemIs P e T.k by_ z) (hk:0<T.k) (hx:ev σ x=some v) (hy:ev σ y=some u) (hs:Sel η (OwnP T e v xs) ζ) (hu:Arr T g.h u ys) (hb:(xs.length+ys.length)*by_≤140737488355328) (h63:xs.length+ys.length≤9223372036854775807) (h:∀ a c,OD P fn n R ops k D g l ((d,.slice a (xs.length+ys.length) c)::σ) (OwnP T e (.slice a (xs.length+ys.length) c) (xs++ys)::ζ)):OD P fn n R ops k D g (i::l) σ η:=ODg.appendP (fl:=false) ho (by simpa [hdOk] using hd) hT ht he hk hx hy hs hu hb h63 h
theorem ODg.idxOwn {v:Value} {xs:List α} {j:Nat} {kd:IntKind} (ho:Fires ops i n σ d (.indexAddr t x y)) {fl:Bool} (hd:hdOk fl ops i l=true) (ht:P.underlying t=some (.slice e)) (he:(P.info? e).map (·.size)=some T.k) (hx:ev σ x=some v) {zi:Int} (hy:ev σ y=some (.int kd zi)) (hzi:zi=(j:Int))
  (hs:Sel η (OwnP T e v xs) ζ) (hj:j<xs.length) (h:∀ p,PtrIn v T.k j p→OD P fn n R ops k D g l ((d,.pointer (some p))::σ) η):ODx P fn n R ops k D g fl (i::l) σ η :=
 ODx.perm hs.perm (ODg.loudE (η:=OwnP T e v xs::ζ) (K:=fun u η' =>∃ p,u=.pointer (some p)∧PtrIn v T.k j p∧η' =OwnP T e v xs::ζ) ho rfl hd
  (fun _=>(DoesE.idxOwn ht he hx hy hzi Sel.here hj).imp fun _ _ ⟨p,a,b,c⟩=>⟨_,⟨p,a,b,rfl⟩,c⟩) fun _ _ ⟨p,a,b,c⟩=>by subst a;subst c;exact ODx.perm hs.perm.symm (h p b))
theorem OD.idxOwn {v:Value} {xs:List α} {j:Nat} {kd:IntKind} (ho:Fires ops i n σ d (.indexAddr t x y)) (hd:descOk ops [i] l=true) (ht:P.underlying t=some (.slice e)) (he:(P.info? e).map (·.size)=some T.k) (hx:ev σ x=some v) {zi:Int} (hy:ev σ y=some (.int kd zi)) (hzi:zi=(j:Int)) (hs:Sel η (OwnP T e v xs) ζ) (hj:j<xs.length) (h:∀ p,PtrIn v T.k j p→OD P fn n R ops k D g l ((d,.pointer (some p))::σ) η):OD P fn n R ops k D g (i::l) σ η:=ODg.idxOwn (fl:=false) ho (by simpa [hdOk] using hd) ht he hx hy hzi hs hj h
theorem ODg.storeOwn {v u:Value} {xs:List α} {j q:Nat} {p:Addr} {a:α} (ho:opAtU ops q=some (.store t x y)) {fl:Bool} (hd:hdOk fl ops q l=true) (hsz:(P.info? t).map (·.size)=some T.k) (hx:ev σ x=some (.pointer (some p))) (hp:PtrIn v T.k j p) (hy:ev σ y=some u)
  (hs:Sel η (OwnP T e v xs) ζ) (hj:j<xs.length) (hu:T.rel Fr.emp u.cells.toList a) (h:OD P fn n R ops k D g l σ (OwnP T e v (xs.set j a)::ζ)):ODx P fn n R ops k D g fl (q::l) σ η :=
 ODx.perm hs.perm (ODg.loudU (η:=OwnP T e v xs::ζ) (η' :=OwnP T e v (xs.set j a)::ζ) ho rfl hd (fun _=>.storeOwn hsz hx hp hy Sel.here hj hu) h)
theorem OD.storeOwn {v u:Value} {xs:List α} {j q:Nat} {p:Addr} {a:α} (ho:opAtU ops q=some (.store t x y)) (hd:descOk ops [q] l=true) (hsz:(P.info? t).map (·.size)=some T.k) (hx:ev σ x=some (.pointer (some p))) (hp:PtrIn v T.k j p) (hy:ev σ y=some u) (hs:Sel η (OwnP T e v xs) ζ) (hj:j<xs.length) (hu:T.rel Fr.emp u.cells.toList a) (h:OD P fn n R ops k D g l σ (OwnP T e v (xs.set j a)::ζ)):OD P fn n R ops k D g (q::l) σ η:=ODg.storeOwn (fl:=false) ho (by simpa [hdOk] using hd) hsz hx hp hy hs hj hu h
theorem OD.slot {v v' :Value} (q:Nat) (hl:look σ q=some v) (h0:v=v') (h:OD P fn n R ops k D g L ((q,v')::σ) η):OD P fn n R ops k D g L σ η:=OD.weaken h (Sub.consE hl h0 Sub.refl)
end
theorem u8_inj {a b:UInt8} (h:(a.toNat:Int)=b.toNat):a=b:=UInt8.toNat_inj.mp (by omega)
theorem u8_toNat {a b:UInt8} (h:a=b):(a.toNat:Int)=b.toNat:=by rw [h]
end Go.Sp
end
end
end
section
/- Texts of this proof, one behind the other. -/
section
/- Texts of this proof, one behind the other. -/
section
/- Texts of this proof. -/
namespace Go.Sp
theorem Holds.putObj {w:World} {g:Gr} {η:List SProp} {b:Nat} {o:Obj} (o' :Obj) (h:Holds w g (blk b o::η)):Holds (w.putObj b o') g (blk b o' ::η):=by
 have hb:=h.block;have hlt:=(Array.getElem?_eq_some_iff.1 hb).1;exact h.setBlock (World.putObj_heap_same hlt) (fun i hi=>World.putObj_heap_other hi) rfl rfl rfl
section ycon
variable {P:Program} {l:Nat} {args:Array Value} {r:Fr} {η:List SProp} {Post:Ending→List SProp→Prop}
end ycon
section
variable {ro:Option Nat} {P:Program} {fn:Func} {n:Nat} {R:Ending→World→Prop} {k:List Item} {σ:List (Nat × Value)} {D:List Deferred} {g:Gr} {η ζ θ:List SProp}
 {ops:Array Oper} {i d l:Nat} {ls:List Nat} {f:FuncId} {x y:Operand} {xs:Array Operand} {ts:Array TypeId} {vals:List Value} {K:Value→List SProp→Prop}
def under:List Nat→List Value→List (Nat × Value)→List (Nat × Value)
 |p::ps,v::vs,σ=>under ps vs ((p,v)::σ)
 |_,_,σ=>σ
theorem S.objIs {todo:List Item} {b:Nat} {T:TypeId} {cs cs' :List Value} (s:Sel η (obj b T cs) ζ) (e:cs=cs') (h:S ro P fn n R todo σ D g (obj b T cs' ::ζ)):S ro P fn n R todo σ D g η:=S.sel s (e ▸ h)
end
end Go.Sp
end
section
/- Texts of this proof. -/
namespace Go.Sp
open Go.ChangeShapes
theorem fr_cell (w:World) (a:Addr):Fr.cell w.fr a=w.cell? a:=by
 unfold Fr.cell World.cell? World.fr
 cases w.heap[a.block]? with
 |none=>rfl
 |some o=>cases o<;>rfl
def Rp.unit:Rp Unit:={ k:=0,rel:=fun _ cs _=>cs=[],len:=fun h=>by rw [h];rfl,mono:=fun _ h=>h,one:=fun h c hc=>by subst h;simp at hc }
def Rp.prod {α β:Type} (T:Rp α) (U:Rp β):Rp (α × β) :=
 {k:=T.k+U.k,rel:=fun h cs x=>∃ c1 c2,cs=c1++c2∧T.rel h c1 x.1∧U.rel h c2 x.2,len:=fun ⟨c1,c2,h,a,b⟩=>by rw [h,List.length_append,T.len a,U.len b]
  mono:=fun s ⟨c1,c2,h,a,b⟩=>⟨c1,c2,h,T.mono s a,U.mono s b⟩
  one:=fun ⟨c1,c2,h,a,b⟩ c hc=>by
   subst h
   rcases List.mem_append.1 hc with x|x
   ·exact T.one a c x
   ·exact U.one b c x }
def light {H:Type} (P:Program) (t:TypeId) (d:DataW H):Prop:=∀ n∈d.weights P t,n≤reachBytes
theorem light_all {H:Type} {P:Program} {e:TypeId}:∀ {ds:List (DataW H)} (_:∀ n∈DataW.weightsAll P e ds,n≤reachBytes) (i:Nat) (hi:i<ds.length),light P e ds[i]
 |d::ds,h,0,_=>fun n hn=>h n (by simp [DataW.weightsAll];exact .inl hn)
 |d::ds,h,i+1,hi=>light_all (ds:=ds) (fun n hn=>h n (by simp [DataW.weightsAll];exact .inr hn)) i (by simpa using hi)
theorem light_each {H:Type} {P:Program}:∀ {ts:List TypeId} {ds:List (DataW H)} (_:∀ n∈DataW.weightsEach P ts ds,n≤reachBytes) (i:Nat) (ht:i<ts.length) (hi:i<ds.length),light P ts[i] ds[i]
 |t::ts,d::ds,h,0,_,_=>fun n hn=>h n (by simp [DataW.weightsEach];exact .inl hn)
 |t::ts,d::ds,h,i+1,ht,hi=>light_each (ts:=ts) (ds:=ds) (fun n hn=>h n (by simp [DataW.weightsEach];exact .inr hn)) i (by simpa using ht) (by simpa using hi)
def Opens (P:Program) (t:TypeId) {α:Type} (T:Rp α) (Q:α→Prop):Prop :=
 ∀ (H:Type) (enc:TypeId × Value→H) (w:World) (base:Nat) (spare:Nat→Bool) (held:Bool) (fuel:Nat) (cs:List Value) (x:DataW H × List MemPlace),
  DataW.trod enc P w base spare held fuel t cs=some x→light P t x.1→∃ a,T.rel w.fr cs a∧Q a
def Within {α:Type} (Q:α→Prop) (xs:List α):Prop:=xs.length≤140737488351232∧∀ x∈xs,Q x
def Anyv {α:Type} (_:α):Prop:=True
theorem Opens.u8 {P:Program} {t:TypeId} (ht:P.underlying t=some (.int .u8)):Opens P t Rp.u8 Anyv:=fun _ _ _ _ _ _ _ _ _ h _=>by
 obtain ⟨n,rfl,_,hw⟩:=DataW.trod_int ht h;have:0≤n∧n≤255:=by simpa [Lit.wf,IntKind.min,IntKind.max,IntKind.wrap,IntKind.bits,IntKind.signed] using hw
 refine ⟨UInt8.ofNat n.toNat,?_,trivial⟩
 show _=_
 have e:((UInt8.ofNat n.toNat).toNat:Int)=n:=by
  have:(UInt8.ofNat n.toNat).toNat=n.toNat % 256:=by simp
  omega
 rw [byteV,e]
theorem Opens.i64 {P:Program} {t:TypeId} (ht:P.underlying t=some (.int .i64)):Opens P t Rp.i64 InI64:=fun _ _ _ _ _ _ _ _ _ h _=>by
 obtain ⟨n,rfl,_,hw⟩:=DataW.trod_int ht h;have:InI64 n:=by unfold InI64;simpa [Lit.wf,IntKind.min,IntKind.max,IntKind.wrap,IntKind.bits,IntKind.signed] using hw
 exact ⟨n,⟨rfl,this⟩,this⟩
theorem Opens.bool {P:Program} {t:TypeId} (ht:P.underlying t=some .bool):Opens P t Rp.bool Anyv:=fun _ _ _ _ _ _ _ _ _ h _=>by
 obtain ⟨n,rfl,_⟩:=DataW.trod_bool ht h;exact ⟨n,rfl,trivial⟩
theorem str_data (s:ByteArray):str s.data.toList=s:=by cases s;rfl
theorem Opens.str {P:Program} {t:TypeId} (ht:P.underlying t=some .string):Opens P t Rp.str (fun s=>s.length≤140737488351232):=fun _ _ _ _ _ _ _ _ _ h hl=>by
 obtain ⟨s,rfl,rfl,hs⟩:=DataW.trod_string ht h;exact ⟨s.data.toList,⟨by rw [str_data],by unfold maxLen at hs;rw [Array.length_toList];exact Nat.le_trans hs (by decide)⟩,hl _ (by simp [DataW.weights])⟩
theorem choose_list {α:Type} {p:Nat→α→Prop}:∀ {n:Nat} (_:∀ i,i<n→∃ x,p i x),∃ l:List α,l.length=n∧∀ i (hi:i<l.length),p i l[i]
 |0,_=>⟨[],rfl,fun i hi=>absurd hi (by simp)⟩
 |n+1,h=>by
  obtain ⟨l,h1,h2⟩:=choose_list (n:=n) (fun i hi=>h i (by omega));obtain ⟨x,hx⟩:=h n (by omega);refine ⟨l++[x],by simp [h1],fun i hi=>?_⟩
  by_cases hi' :i<l.length
  ·rw [List.getElem_append_left hi'];exact h2 i hi'
  ·have:i=n:=by simp at hi;omega
   subst this;rw [List.getElem_append_right (by omega)];simpa using hx
theorem All2.of_get {α β:Type} {R:β→α→Prop}:∀ {bs:List β} {as:List α},bs.length=as.length→(∀ i (hb:i<bs.length) (ha:i<as.length),R bs[i] as[i])→All2 R bs as
 |[],[],_,_=>trivial
 |_::_,[],h,_=>by simp at h
 |[],_::_,h,_=>by simp at h
 |b::bs,a::as,h,hr=>⟨hr 0 (by simp) (by simp),All2.of_get (by simpa using h) fun i hb ha=>hr (i+1) (by simp;omega) (by simp;omega)⟩
theorem flat_len_k {α:Type} {k:Nat}:∀ {css:List (List α)},(∀ c∈css,c.length=k)→css.flatten.length=css.length*k
 |[],_=>by simp
 |c::css,h=>by
  rw [List.flatten_cons,List.length_append,flat_len_k (fun d hd=>h d (by simp [hd])),h c (by simp)];simp [Nat.succ_mul];omega
theorem flat_get_k {α:Type} {k:Nat} (hk:0<k):∀ {css:List (List α)} (_:∀ c∈css,c.length=k) (j:Nat),css.flatten[j]?=(css[j / k]?).bind fun c=>c[j % k]?
 |[],_,j=>by simp
 |c::css,h,j=>by
  have hc:=h c (by simp)
  by_cases hj:j<k
  ·rw [List.flatten_cons,List.getElem?_append_left (by omega),Nat.div_eq_of_lt hj,Nat.mod_eq_of_lt hj];simp
  ·have hj' :k≤j:=by omega
   rw [List.flatten_cons,List.getElem?_append_right (by omega),hc,flat_get_k hk (fun d hd=>h d (by simp [hd]))];have e1:j / k=(j - k) / k+1:=by rw [Nat.div_eq_sub_div hk hj']
   have e2:j % k=(j - k) % k:=by rw [Nat.mod_eq_sub_mod hj']
   rw [e1,e2];simp
theorem Opens.slice {P:Program} {t e:TypeId} {α:Type} {T:Rp α} {Q:α→Prop} (ho:Opens P e T Q) (ht:P.underlying t=some (.slice e)) (hc:P.cellsOf e=T.k) (hy:0<P.bytesOf e) (hk:0<T.k):Opens P t (Rp.slice T) (Within Q):=fun H enc w base spare held fuel cs x h hlt=>by
 rcases DataW.trod_slice ht h with ⟨rfl,_⟩|⟨a,len,cap,elems,rest,n,_,rfl,rfl,hb,hl,hm,hlen,hel,_,_⟩
 ·exact ⟨[],⟨_,rfl,Arr.nil⟩,by simp,by simp⟩
 have hw:len*P.bytesOf e≤reachBytes∧∀ n∈DataW.weightsAll P e (elems.map (·.1)),n≤reachBytes:=by
  unfold light at hlt;simp only [DataW.weights,ht,List.length_map,List.mem_cons,List.mem_append] at hlt;exact ⟨Nat.le_trans (Nat.mul_le_mul_right _ (by omega)) (hlt _ (.inl rfl)),fun n hn=>hlt n (.inr (.inl hn))⟩
 have hlen2:len≤140737488351232:=by
  have:=Nat.le_trans (Nat.le_mul_of_pos_right len hy) hw.1;unfold reachBytes at this;omega
 have each:∀ i,i<len→∃ y:List Value × α,y.1.length=T.k∧(T.rel w.fr y.1 y.2∧Q y.2)∧∀ q,q<T.k→w.cell? ((a.add (i*T.k)).add q)=y.1[q]?:=by
  intro i hi
  have h1:=hel i hi;rw [List.getElem?_eq_getElem (by omega),hc,Option.bind_eq_some_iff] at h1;obtain ⟨ds,h2,h3⟩:=h1;obtain ⟨b,hb⟩:=ho _ enc w base spare held n ds _ h3 (by have h9:=light_all hw.2 i (by simp;omega);rw [List.getElem_map] at h9;exact h9);obtain ⟨_,h4,h5⟩:=World.cells?_some h2;exact ⟨(ds,b),h4,hb,h5⟩
 obtain ⟨l,h1,h2⟩:=choose_list each;have hQ:Within Q (l.map (·.2)):=by
  refine ⟨by simp;omega,fun y hy=>?_⟩;obtain ⟨z,hz,rfl⟩:=List.mem_map.1 hy;obtain ⟨i,hi,rfl⟩:=List.mem_iff_getElem.1 hz;exact (h2 i hi).2.1.2
 refine ⟨l.map (·.2),⟨_,rfl,l.map (·.1),?_,some a,cap,?_,?_,⟨?_,fun h=>by cases h⟩,?_,?_⟩,hQ⟩
 ·refine All2.of_get (by simp) fun i hb ha=>?_
  simp only [List.getElem_map];exact (h2 i (by simpa using hb)).2.1.1
 ·simp [h1]
 ·simp [h1];omega
 ·simpa [maxLen] using hm
 ·rw [flat_len_k (k:=T.k)]
  ·simp
  ·intro c hc
   obtain ⟨y,hy,rfl⟩:=List.mem_map.1 hc;obtain ⟨i,hi,rfl⟩:=List.mem_iff_getElem.1 hy;exact (h2 i hi).1
 ·intro j hj
  refine ⟨a,rfl,?_⟩;have hall:∀ c∈l.map (·.1),c.length=T.k:=by
   intro c hc
   obtain ⟨y,hy,rfl⟩:=List.mem_map.1 hc;obtain ⟨i,hi,rfl⟩:=List.mem_iff_getElem.1 hy;exact (h2 i hi).1
  rw [fr_cell,← List.getElem?_eq_getElem hj,flat_get_k hk hall];have hj2:j<l.length*T.k:=by rw [flat_len_k hall] at hj;simpa using hj
  have hi:j / T.k<l.length:=by rw [Nat.div_lt_iff_lt_mul hk];exact hj2
  have hq:j % T.k<T.k:=Nat.mod_lt _ hk;have:=(h2 _ hi).2.2 _ hq;rw [Addr.add_add,show j / T.k*T.k+j % T.k=j from by rw [Nat.mul_comm];exact Nat.div_add_mod j T.k] at this;rw [this]
  simp [List.getElem?_eq_getElem hi]
theorem Opens.arr {P:Program} {t:TypeId} {α:Type} {T:Rp α} {Q:List α→Prop} (ho:Opens P t (Rp.slice T) Q) {H:Type} {enc:TypeId × Value→H} {w:World} {base:Nat} {spare:Nat→Bool} {held:Bool} {fuel:Nat} {v:Value} {x:DataW H × List MemPlace}
  (h:DataW.trod enc P w base spare held fuel t [v]=some x) (hl:light P t x.1):∃ a,Arr T w.fr v a∧Q a:=by
 obtain ⟨a,⟨u,h1,h2⟩,hq⟩:=ho _ enc w base spare held fuel _ x h hl
 cases h1
 exact ⟨a,h2,hq⟩
def OpensF (P:Program) (fs:List Field) (off:Nat) {α:Type} (T:Rp α) (Q:α→Prop):Prop :=
 ∀ (H:Type) (enc:TypeId × Value→H) (w:World) (base:Nat) (spare:Nat→Bool) (held:Bool) (fuel:Nat) (cs:List Value),
  (∀ f∈fs,∃ x,DataW.trod enc P w base spare held fuel f.type ((cs.drop f.offset).take (P.cellsOf f.type))=some x∧light P f.type x.1)→cs.length=off+T.k→∃ a,T.rel w.fr (cs.drop off) a∧Q a
theorem OpensF.nil {P:Program} {off:Nat}:OpensF P [] off Rp.unit Anyv:=fun _ _ _ _ _ _ _ cs _ h=>⟨(),by show cs.drop off=[];rw [List.drop_eq_nil_of_le];simp [Rp.unit] at h;omega,trivial⟩
theorem OpensF.cons {P:Program} {f:Field} {fs:List Field} {off:Nat} {α β:Type} {T:Rp α} {U:Rp β} {Q:α→Prop} {R:β→Prop} (ho:f.offset=off) (hc:P.cellsOf f.type=T.k) (h1:Opens P f.type T Q) (h2:OpensF P fs (off+T.k) U R):OpensF P (f::fs) off (Rp.prod T U) (fun x=>Q x.1∧R x.2) :=
 fun H enc w base spare held fuel cs h hl=>by
  obtain ⟨x,hx,hx'⟩:=h f (by simp);rw [ho,hc] at hx;obtain ⟨a,ha,qa⟩:=h1 _ _ _ _ _ _ _ _ _ hx hx';obtain ⟨b,hb,qb⟩:=h2 _ enc w base spare held fuel cs (fun g hg=>h g (by simp [hg])) (by rw [hl];simp [Rp.prod];omega);exact ⟨(a,b),⟨_,_,(by rw [← List.drop_drop,List.take_append_drop]:cs.drop off=(cs.drop off).take T.k++cs.drop (off+T.k)),ha,hb⟩,qa,qb⟩
theorem Opens.struct {P:Program} {t:TypeId} {fs:List Field} {α:Type} {T:Rp α} {Q:α→Prop} (ho:OpensF P fs 0 T Q) (ht:P.underlying t=some (.struct fs.toArray)) (hc:P.cellsOf t=T.k):Opens P t T Q:=fun H enc w base spare held fuel cs x h hlt=>by
 obtain ⟨xs,n,_,rfl,hl,hn,hf⟩:=DataW.trod_struct ht h;unfold light at hlt;simp only [DataW.weights,ht] at hlt;have:=ho _ enc w base spare held n cs (fun f hf' =>by
  obtain ⟨i,hi,rfl⟩:=List.mem_iff_getElem.1 hf';have:=hf i fs[i] (by simp [hi]);have hi2:i<xs.length:=by simp at hn;omega
  rw [List.getElem?_eq_getElem hi2] at this;refine ⟨_,by simpa using this,?_⟩;have:=light_each hlt i (by simpa using hi) (by simpa using hi2)
  simpa using this) (by rw [hl,hc];simp)
 simpa using this
end Go.Sp
end
end
section
/- Texts of this proof, one behind the other. -/
section
/- Texts of this proof, one behind the other. -/
section
/- Texts of this proof. -/
namespace Go.Sp
structure Gp (α:Type) where
 rp:Rp α
 own:List Value→α→SProp
 rel:∀ {cs:List Value} {a:α} {m:Fr},own cs a m→rp.rel m cs a
theorem All2.len2 {α β:Type} {R:β→α→Prop}:∀ {bs:List β} {as:List α},All2 R bs as→bs.length=as.length
 |[],[],_=>rfl
 |[],_::_,h=>h.elim
 |_::_,[],h=>h.elim
 |_::_,_::_,h=>congrArg Nat.succ (All2.len2 h.2)
theorem all2_cells {k:Nat} {h:Fr}:∀ {cs:List (List Value)} {ds:List (List Value)},All2 ((Rp.cells k).rel h) cs ds→cs=ds
 |[],[],_=>rfl
 |[],_::_,h=>h.elim
 |_::_,[],h=>h.elim
 |_::_,_::_,h=>by rw [h.1.1,all2_cells h.2]
theorem Arr.ofCells {α:Type} {T:Rp α} {k:Nat} {h:Fr} {v:Value} {css:List (List Value)} {xs:List α} (h1:Arr (Rp.cells k) h v css) (h2:All2 (T.rel h) css xs) (hk:k=T.k):Arr T h v xs:=by
 obtain ⟨ds,p,q⟩:=h1;obtain rfl:=all2_cells p;subst hk;exact ⟨ds,h2,by rw [← h2.len2];exact q⟩
def ListP {α:Type} (G:Gp α) (e:TypeId) (v:Value) (xs:List α):SProp:=fun m=>∃ css,Sat [OwnP (Rp.cells G.rp.k) e v css,EachP G.own css xs] m
theorem ListP.arr {α:Type} {G:Gp α} {e:TypeId} {v:Value} {xs:List α} {m:Fr}:ListP G e v xs m→Arr G.rp m v xs:=by
 rintro ⟨css,h1,h2,_,s1,s2,⟨ds,p,q⟩,h3,_,_,t,_,y,_⟩;have hd:=all2_cells p;have hy:=EachP.all2 (R:=fun cs a=>G.rp.rel m cs a) (k:=m) (fun b a m' z s=>G.rp.mono s (G.rel z)) y (Fr.sub_trans t s2);refine ⟨css,hy,?_⟩;rw [← hy.len2];subst hd;exact (q.sl).mono s1
def Gp.pure {α:Type} (T:Rp α):Gp α:={ rp:=T,own:=fun cs a _=>T.rel Fr.emp cs a,rel:=fun h=>T.mono (Fr.emp_sub _) h }
def Gp.row {α:Type} (T:Rp α) (e:TypeId):Gp (List α):={ rp:=Rp.slice T,own:=fun cs xs m=>∃ v,cs=[v]∧OwnP T e v xs m,rel:=fun ⟨v,h,x⟩=>⟨v,h,x.arr⟩ }
def Gp.list {α:Type} (G:Gp α) (e:TypeId):Gp (List α):={ rp:=Rp.slice G.rp,own:=fun cs xs m=>∃ v,cs=[v]∧ListP G e v xs m,rel:=fun ⟨v,h,x⟩=>⟨v,h,x.arr⟩ }
def Gp.prod {α β:Type} (A:Gp α) (B:Gp β):Gp (α × β) :=
 {rp:=Rp.prod A.rp B.rp,own:=fun cs x m=>∃ c d,cs=c++d∧Sat [A.own c x.1,B.own d x.2] m
  rel:=fun ⟨c,d,h,z⟩=>by
   obtain ⟨h1,h2,_,s1,s2,p,q⟩:=Sat.two.1 z;obtain ⟨h3,t,u⟩:=q;exact ⟨c,d,h,A.rp.mono s1 (A.rel p),B.rp.mono (Fr.sub_trans t s2) (B.rel u)⟩ }
def Gp.unit:Gp Unit:={ rp:=Rp.unit,own:=fun cs _ _=>cs=[],rel:=fun h=>h }
theorem Gp.own_pure_prod {α β:Type} {T:Rp α} {B:Gp β} {c d:List Value} {x:α} {y:β} {m:Fr} (h:T.rel Fr.emp c x) (h2:B.own d y m):(Gp.prod (Gp.pure T) B).own (c++d) (x,y) m :=
 ⟨c,d,rfl,Fr.emp,m,Fr.emp_disj _,Fr.emp_sub _,Fr.sub_refl _,h,m,Fr.emp,Fr.disj_symm (Fr.emp_disj _),Fr.sub_refl _,Fr.emp_sub _,h2,trivial⟩
section
variable {ro:Option Nat} {P:Program} {fn:Func} {n:Nat} {R:Ending→World→Prop} {k:List Item} {σ:List (Nat × Value)} {D:List Deferred} {g:Gr} {η ζ θ:List SProp} {ops:Array Oper} {L:List Nat} {todo:List Item}
 {α:Type} {G:Gp α} {e:TypeId} {v:Value} {xs:List α}
theorem sat_listNil {m:Fr} (h:Sat η m):Sat (ListP G e (.slice none 0 0) []::η) m:=by
 refine ⟨Fr.emp,m,Fr.emp_disj _,Fr.emp_sub _,Fr.sub_refl _,⟨[],Fr.emp,Fr.emp,Fr.emp_disj _,Fr.emp_sub _,Fr.emp_sub _,?_,Fr.emp,Fr.emp,Fr.emp_disj _,Fr.emp_sub _,Fr.emp_sub _,trivial,trivial⟩,h⟩;exact ownP_nil _
theorem S.listNil (G:Gp α) (e:TypeId) (h:S ro P fn n R todo σ D g (ListP G e (.slice none 0 0) []::η)):S ro P fn n R todo σ D g η:=S.imp' (fun _=>sat_listNil) h
theorem S.listOpen {k' :Nat} (hk:G.rp.k=k') (s:Sel η (ListP G e v xs) ζ) (h:∀ css,css.length=xs.length→S ro P fn n R todo σ D g (OwnP (Rp.cells k') e v css::EachP G.own css xs::ζ)):S ro P fn n R todo σ D g η:=by
 subst hk;exact S.sel s (S.exi (A:=fun css m=>Sat [OwnP (Rp.cells G.rp.k) e v css,EachP G.own css xs] m) fun css =>
  S.entail (fun _ x=>x) (S.factS (B:=EachP G.own css xs) (.there .here) (p:=css.length=xs.length) (fun _ x=>x.len) fun hl=>h css hl))
theorem sat_list {k' :Nat} (hk:G.rp.k=k') {css:List (List Value)} (s1:Sel η (OwnP (Rp.cells k') e v css) ζ) (s2:Sel ζ (EachP G.own css xs) θ) {m:Fr} (h:Sat η m):Sat (ListP G e v xs::θ) m:=by
 subst hk;exact Sat.join2 (A:=OwnP (Rp.cells G.rp.k) e v css) (B:=EachP G.own css xs) (fun _ x=>⟨css,x⟩) (Sat.cons_imp (fun _ y=>y) (fun _ y=>Sat.perm s2.perm y) (Sat.perm s1.perm h))
theorem S.listShut {k' :Nat} (hk:G.rp.k=k') {css:List (List Value)} (s1:Sel η (OwnP (Rp.cells k') e v css) ζ) (s2:Sel ζ (EachP G.own css xs) θ) (h:S ro P fn n R todo σ D g (ListP G e v xs::θ)):S ro P fn n R todo σ D g η :=
 S.imp' (fun _=>sat_list hk s1 s2) h
theorem S.listPut {k' :Nat} (hk:G.rp.k=k') {css:List (List Value)} {cs:List Value} {a:α} {η₁ η₂:List SProp} (s1:Sel η (OwnP (Rp.cells k') e v (css++[cs])) ζ) (s2:Sel ζ (EachP G.own css xs) η₁) (s3:Sel η₁ (G.own cs a) η₂) (h:S ro P fn n R todo σ D g (ListP G e v (xs++[a])::η₂)):S ro P fn n R todo σ D g η :=
 S.sel s1 (S.each (.there s2) (.there s3) (S.listShut hk (.there .here) .here h))
end
theorem OD.loadL {P:Program} {fn:Func} {n:Nat} {R:Ending→World→Prop} {k:List Item} {σ:List (Nat × Value)} {D:List Deferred} {g:Gr} {η:List SProp} {ops:Array Oper} {l:List Nat} {i d:Nat} {t:TypeId} {x:Operand} {v:Value}
  (ho:Fires ops i n σ d (.load t x)) (hd:descOk ops [i] l=true) (hdo:∀ ζ,Does P (.load t x) σ g (η++ζ) v (η++ζ)) (h:OD P fn n R ops k D g l ((d,v)::σ) η):OD P fn n R ops k D g (i::l) σ η :=
 .loudE (K:=fun v' η' =>v' =v∧η' =η) ho rfl hd (fun ζ o ρ w h1 h2 h3=>let ⟨w',a,b⟩:=hdo ζ o ρ w h1 h2 h3;⟨v,w',η++ζ,⟨η,⟨rfl,rfl⟩,rfl⟩,a,b⟩) (by rintro _ _ ⟨rfl,rfl⟩;exact h)
theorem Con.post {P:Program} {f:FuncId} {args:Array Value} {r:Fr} {η:List SProp} {Post Post' :Ending→List SProp→Prop} (h:Con P f args r η Post) (hp:∀ e η',Post e η' →∀ w g,Holds w g η' →∃ η'',Post' e η'' ∧Holds w g η''):Con P f args r η Post' :=
 fun g hr w hw=>(h g hr w hw).mono fun e w' ⟨η',x,y⟩=>hp e η' x w' g y
theorem Ret.imp {K K' :Value→List SProp→Prop} (h:∀ v η,K v η→K' v η):∀ e η,Ret K e η→Ret K' e η
 |.returned v,η,x=>h v η x
 |.panicked _,_,x=>x.elim
 |.outgrown,_,x=>x.elim
theorem Holds.exi {w:World} {g:Gr} {ζ:List SProp} {α:Type} {A:α→SProp} (h:Holds w g ((fun m=>∃ x,A x m)::ζ)):∃ x,Holds w g (A x::ζ):=by
 obtain ⟨p,q,rr,k,d,s1,s2,k1,k2,kd,t1,t2,⟨x,hx⟩,y⟩:=h;exact ⟨x,p,q,rr,k,d,s1,s2,k1,k2,kd,t1,t2,hx,y⟩
end Go.Sp
end
section
/- Texts of this proof, one behind the other. -/
section
/- Texts of this proof. -/
namespace Go.Sp
section
variable {ro:Option Nat} {P:Program} {fn:Func} {n:Nat} {R:Ending→World→Prop} {k:List Item} {σ:List (Nat × Value)} {D:List Deferred} {g:Gr} {η:List SProp} {ops:Array Oper} {i d:Nat} {l:List Nat} {t:TypeId} {x:Operand}
theorem str_extract (xs:List UInt8) (a b:Nat):(str xs).extract a b=str ((xs.take b).drop a):=by
 have:=ByteArray.extract_mk xs a b;unfold str;rw [this,List.drop_take]
theorem str_does {xs:List UInt8} {lo hi:Option Operand} {a b:Nat} {kl kh:IntKind} (ht:P.underlying t=some .string) (hx:ev σ x=some (.string (str xs)))
  (hlo:∀ y,lo=some y→ev σ y=some (.int kl (a:Int))) (hlo' :lo=none→a=0) (hhi:∀ y,hi=some y→ev σ y=some (.int kh (b:Int))) (hhi' :hi=none→b=xs.length)
  (hab:a≤b) (hb:b≤xs.length):∀ η,Does P (.slice t x lo hi none) σ g η (.string (str ((xs.take b).drop a))) η:=fun η=>.run fun o ρ w ho hk=>by
 have hsz:=str_size xs;have e1:(a:Int)≤(b:Int):=by omega
 have hex:=str_extract xs a b
 cases lo with
 |none =>
  have:=hlo' rfl;subst this
  cases hi with
  |none=>have:=hhi' rfl;subst this;simp [execOp,ho,hk x _ hx,Instr.sliceAt,run_underlying ht,Instr.slice,Instr.sliceBounds,hsz,hex]
  |some y =>
   simp [execOp,ho,hk x _ hx,hk y _ (hhi y rfl),Instr.sliceAt,run_underlying ht,Instr.slice,Instr.sliceBounds,Instr.sliceBound,asIntOf,hsz,hb,hex]
 |some z =>
  cases hi with
  |none=>have:=hhi' rfl;subst this;simp [execOp,ho,hk x _ hx,hk z _ (hlo z rfl),Instr.sliceAt,run_underlying ht,Instr.slice,Instr.sliceBounds,Instr.sliceBound,asIntOf,hsz,hab,hex]
  |some y =>
   simp [execOp,ho,hk x _ hx,hk z _ (hlo z rfl),hk y _ (hhi y rfl),Instr.sliceAt,run_underlying ht,Instr.slice,Instr.sliceBounds,Instr.sliceBound,asIntOf,hsz,hab,hb,hex]
theorem O.strTo {xs:List UInt8} {kb:IntKind} {zb:Int} {b:Nat} {y:Operand} (ho:Fires ops i n σ d (.slice t x none (some y) none)) (ht:P.underlying t=some .string) (hx:ev σ x=some (.string (str xs))) (hy:ev σ y=some (.int kb zb)) (hz:zb=(b:Int)) (hb:b≤xs.length)
  (h:O ro P fn n R ops l k ((d,.string (str (xs.take b)))::σ) D g η):O ro P fn n R ops (i::l) k σ D g η:=by
 subst hz;have:=str_does (P:=P) (σ:=σ) (g:=g) (kl:=.i64) (kh:=kb) (a:=0) (b:=b) ht hx (lo:=none) (hi:=some y) (fun _ h=>nomatch h) (fun _=>rfl) (fun _ h=>by cases h;exact hy) (fun h=>nomatch h) (Nat.zero_le _) hb η;exact O.op ho this h
theorem O.strFrom {xs:List UInt8} {ka:IntKind} {za:Int} {a:Nat} {y:Operand} (ho:Fires ops i n σ d (.slice t x (some y) none none)) (ht:P.underlying t=some .string) (hx:ev σ x=some (.string (str xs))) (hy:ev σ y=some (.int ka za)) (hz:za=(a:Int)) (ha:a≤xs.length)
  (h:O ro P fn n R ops l k ((d,.string (str (xs.drop a)))::σ) D g η):O ro P fn n R ops (i::l) k σ D g η:=by
 subst hz;have:=str_does (P:=P) (σ:=σ) (g:=g) (kl:=ka) (kh:=.i64) (a:=a) (b:=xs.length) ht hx (lo:=some y) (hi:=none) (fun _ h=>by cases h;exact hy) (fun h=>nomatch h) (fun _ h=>nomatch h) (fun _=>rfl) ha (Nat.le_refl _) η;rw [List.take_length] at this;exact O.op ho this h
end
end Go.Sp
end
section
/- Texts of this proof. -/
namespace Go.Sp
def RdW {α:Type} (T:Rp α) (cs:List Value) (a:α):SProp:=fun m=>T.rel m cs a
section marks
variable {α:Type} (f:Int→Int→α)
def mkL (k n:Nat):List α:=(List.range n).map fun (i:Nat)=>f (k:Int) (i:Int)
@[simp] theorem mkL_length (k n:Nat):(mkL f k n).length=n:=by simp [mkL]
def mkX (k n i:Nat):List α:=(List.range i).map fun (q:Nat)=>f (k:Int) ((n:Int)+(q:Int))
@[simp] theorem mkX_length (k n i:Nat):(mkX f k n i).length=i:=by simp [mkX]
def mkM (j n i:Nat):List α:=(List.range i).map fun (q:Nat)=>f ((j:Int)+(n:Int)) (q:Int)
@[simp] theorem mkM_length (j n i:Nat):(mkM f j n i).length=i:=by simp [mkM]
def mkAll (ns:List Nat) (k:Nat):List (List α):=(List.range k).map fun j=>mkL f j (ns[j]?.getD 0)
@[simp] theorem mkAll_length (ns:List Nat) (k:Nat):(mkAll f ns k).length=k:=by simp [mkAll]
end marks
section
variable {ro:Option Nat} {P:Program} {fn:Func} {n:Nat} {R:Ending→World→Prop} {todo:List Item} {σ:List (Nat × Value)} {D:List Deferred} {g:Gr} {η ζ θ ξ:List SProp} {α:Type} {T:Rp α} {K:Nat} {e:TypeId} {v u:Value} {xs ys:List α}
end
theorem EachP.mono {β α:Type} {A:β→α→SProp} {m k:Fr} (s:m.sub k):∀ {bs:List β} {as:List α},EachP A bs as m→EachP A bs as k
 |[],[],_=>trivial
 |[],_::_,h=>h.elim
 |_::_,[],h=>h.elim
 |_::_,_::_,h=>Sat.mono s h
theorem EachP.app {β α:Type} {A:β→α→SProp}:∀ {bs:List β} {as:List α} {bs' :List β} {as' :List α} {m:Fr},Sat [EachP A bs as,EachP A bs' as'] m→EachP A (bs++bs') (as++as') m
 |[],[],bs',as',m,h=>by
  obtain ⟨_,_,_,_,s2,_,h3,_,_,t,_,y,_⟩:=h;exact EachP.mono (Fr.sub_trans t s2) y
 |[],_::_,_,_,_,h=>by obtain ⟨_,_,_,_,_,x,_⟩:=h;exact x.elim
 |_::_,[],_,_,_,h=>by obtain ⟨_,_,_,_,_,x,_⟩:=h;exact x.elim
 |b::bs,a::as,bs',as',m,h=>by
  obtain ⟨h1,h2,d,s1,s2,x,y⟩:=h;have x' :Sat [A b a,EachP A bs as] h1:=x;obtain ⟨k1,k2,kd,t1,t2,p,k3,k4,kd',u1,u2,q,_⟩:=x'
  show Sat [A b a,EachP A (bs++bs') (as++as')] m
  have d1:k3.disj h2:=Fr.disj_sub d (Fr.sub_trans u1 t2) (Fr.sub_refl _);refine ⟨k1,k3.add h2,Fr.disj_add_right (Fr.disj_sub kd (Fr.sub_refl _) u1) (Fr.disj_sub d t1 (Fr.sub_refl _)),Fr.sub_trans t1 s1,Fr.add_sub (Fr.sub_trans (Fr.sub_trans u1 t2) s1) s2,p,k3.add h2,Fr.emp,Fr.disj_symm (Fr.emp_disj _),Fr.sub_refl _,Fr.emp_sub _,?_,trivial⟩;exact EachP.app ⟨k3,h2,d1,Fr.sub_add_left _ _,Fr.sub_add_right d1,q,y⟩
end Go.Sp
end
end
end
section
/- Texts of this proof. -/
namespace Go.Sp
theorem Rp.rel.mono {α:Type} {T:Rp α} {h k:Fr} {cs:List Value} {x:α} (r:T.rel h cs x) (s:h.sub k):T.rel k cs x:=T.mono s r
def mks {α:Type} (f:Int→α) (n:Nat):List α:=(List.range n).map fun (i:Nat)=>f (i:Int)
@[simp] theorem mks_length {α:Type} (f:Int→α) (n:Nat):(mks f n).length=n:=by simp [mks]
theorem mks_succ {α:Type} (f:Int→α) (n:Nat):mks f n++[f (n:Int)]=mks f (n+1):=by simp [mks,List.range_succ]
theorem mks_get {α:Type} (f:Int→α) (n i:Nat) (h:i<(mks f n).length):(mks f n)[i]=f (i:Int):=by simp [mks]
structure Lp (α:Type) where
 rp:Rp α
 own:List Value→α→SProp
 rd:Fr→List Value→α→Prop
 read:∀ {cs:List Value} {a:α} {m:Fr},own cs a m→rd m cs a
 mono:∀ {h k:Fr} {cs:List Value} {a:α},h.sub k→rd h cs a→rd k cs a
 rel:∀ {h:Fr} {cs:List Value} {a:α},rd h cs a→rp.rel h cs a
def Lp.pure {α:Type} (T:Rp α):Lp α:={ rp:=T,own:=fun cs a _=>T.rel Fr.emp cs a,rd:=fun _ cs a=>T.rel Fr.emp cs a,read:=fun h=>h,mono:=fun _ h=>h,rel:=fun h=>T.mono (Fr.emp_sub _) h }
def Lp.unit:Lp Unit:={ rp:=Rp.unit,own:=fun cs _ _=>cs=[],rd:=fun _ cs _=>cs=[],read:=fun h=>h,mono:=fun _ h=>h,rel:=fun h=>h }
def Lp.prod {α β:Type} (A:Lp α) (B:Lp β):Lp (α × β) :=
 {rp:=Rp.prod A.rp B.rp,own:=fun cs x m=>∃ c d,cs=c++d∧Sat [A.own c x.1,B.own d x.2] m
  rd:=fun h cs x=>∃ c d,cs=c++d∧A.rd h c x.1∧B.rd h d x.2
  read:=fun ⟨c,d,h,z⟩=>by
   obtain ⟨h1,h2,_,s1,s2,p,q⟩:=Sat.two.1 z;obtain ⟨h3,t,u⟩:=q;exact ⟨c,d,h,A.mono s1 (A.read p),B.mono (Fr.sub_trans t s2) (B.read u)⟩
  mono:=fun s ⟨c,d,h,x,y⟩=>⟨c,d,h,A.mono s x,B.mono s y⟩
  rel:=fun ⟨c,d,h,x,y⟩=>⟨c,d,h,A.rel x,B.rel y⟩ }
def LentQ {α:Type} (T:Rp α) (e:TypeId) (f:Int→α) (v:Value) (xs:List α):SProp:=fun h=>∃ a c,xs.length+12≤c∧v=.slice a xs.length c∧OwnP T e (.slice a (xs.length+12) c) (xs++mks f 12) h
def LentQA {α:Type} (T:Rp α) (f:Int→α) (h:Fr) (v:Value) (xs:List α):Prop:=∃ a c,xs.length+12≤c∧v=.slice a xs.length c∧Arr T h (.slice a (xs.length+12) c) (xs++mks f 12)
theorem LentQ.read {α:Type} {T:Rp α} {e:TypeId} {f:Int→α} {v:Value} {xs:List α} {h:Fr}:LentQ T e f v xs h→LentQA T f h v xs
 |⟨a,c,h1,h2,h3⟩=>⟨a,c,h1,h2,h3.arr⟩
theorem LentQA.mono {α:Type} {T:Rp α} {f:Int→α} {v:Value} {xs:List α} {h k:Fr} (s:h.sub k):LentQA T f h v xs→LentQA T f k v xs
 |⟨a,c,h1,h2,h3⟩=>⟨a,c,h1,h2,h3.mono s⟩
theorem LentQA.arr {α:Type} {T:Rp α} {f:Int→α} {v:Value} {xs:List α} {h:Fr}:LentQA T f h v xs→Arr T h v xs
 |⟨a,c,h1,h2,h3⟩=>by subst h2;exact Arr.cut (ys:=mks f 12) rfl (by simpa using h3)
def Lp.flat {α:Type} (T:Rp α) (e:TypeId) (f:Int→α):Lp (List α) :=
 {rp:=Rp.slice T,own:=fun cs xs m=>∃ v,cs=[v]∧LentQ T e f v xs m,rd:=fun h cs xs=>∃ v,cs=[v]∧LentQA T f h v xs
  read:=fun ⟨v,h,x⟩=>⟨v,h,x.read⟩,mono:=fun s ⟨v,h,x⟩=>⟨v,h,x.mono s⟩,rel:=fun ⟨v,h,x⟩=>⟨v,h,x.arr⟩ }
def LentL {α:Type} (L:Lp α) (e:TypeId) (f:Int→α) (v:Value) (xs:List α):SProp:=fun m=>∃ a c css dss,v=.slice a xs.length c∧xs.length+12≤c∧css.length=xs.length∧dss.length=12 ∧
 Sat [OwnP (Rp.cells L.rp.k) e (.slice a (xs.length+12) c) (css++dss),EachP L.own css xs,EachP (RdW L.rp) dss (mks f 12)] m
def LentLA {α:Type} (L:Lp α) (f:Int→α) (h:Fr) (v:Value) (xs:List α):Prop:=∃ a c css dss,v=.slice a xs.length c∧xs.length+12≤c∧Arr (Rp.cells L.rp.k) h (.slice a (xs.length+12) c) (css++dss)∧All2 (L.rd h) css xs∧All2 (L.rp.rel h) dss (mks f 12)
theorem LentL.read {α:Type} {L:Lp α} {e:TypeId} {f:Int→α} {v:Value} {xs:List α} {m:Fr}:LentL L e f v xs m→LentLA L f m v xs
 |⟨a,c,css,dss,h1,h2,h3,h4,x⟩=>by
  obtain ⟨m1,k1,_,s1,t1,y1,m2,k2,_,s2,t2,y2,m3,k3,_,s3,_,y3,_⟩:=x;exact ⟨a,c,css,dss,h1,h2,y1.arr.mono s1,EachP.all2 (fun _ _ _ z q=>L.mono q (L.read z)) y2 (Fr.sub_trans s2 t1),
   EachP.all2 (fun _ _ _ z q=>L.rp.mono q z) y3 (Fr.sub_trans s3 (Fr.sub_trans t2 t1))⟩
theorem LentLA.mono {α:Type} {L:Lp α} {f:Int→α} {v:Value} {xs:List α} {h k:Fr} (s:h.sub k):LentLA L f h v xs→LentLA L f k v xs
 |⟨a,c,css,dss,h1,h2,h3,h4,h5⟩=>⟨a,c,css,dss,h1,h2,h3.mono s,h4.imp fun _ _=>L.mono s,h5.imp fun _ _=>L.rp.mono s⟩
theorem LentLA.arr {α:Type} {L:Lp α} {f:Int→α} {v:Value} {xs:List α} {h:Fr}:LentLA L f h v xs→Arr L.rp h v xs
 |⟨a,c,css,dss,h1,h2,h3,h4,h5⟩=>by
  subst h1;have hl:=h4.len2;have hd:=h5.len2.trans (mks_length f 12);exact Arr.ofCells (css:=css) (k:=L.rp.k) (Arr.cut (ys:=dss) hl.symm (by rw [hl,hd];exact h3)) (h4.imp fun _ _=>L.rel) rfl
def Lp.list {α:Type} (L:Lp α) (e:TypeId) (f:Int→α):Lp (List α) :=
 {rp:=Rp.slice L.rp,own:=fun cs xs m=>∃ v,cs=[v]∧LentL L e f v xs m,rd:=fun h cs xs=>∃ v,cs=[v]∧LentLA L f h v xs
  read:=fun ⟨v,h,x⟩=>⟨v,h,x.read⟩,mono:=fun s ⟨v,h,x⟩=>⟨v,h,x.mono s⟩,rel:=fun ⟨v,h,x⟩=>⟨v,h,x.arr⟩ }
theorem Lp.own_pure_prod {α β:Type} {T:Rp α} {B:Lp β} {c d:List Value} {x:α} {y:β} {m:Fr} (h:T.rel Fr.emp c x) (h2:B.own d y m):(Lp.prod (Lp.pure T) B).own (c++d) (x,y) m :=
 ⟨c,d,rfl,Fr.emp,m,Fr.emp_disj _,Fr.emp_sub _,Fr.sub_refl _,h,m,Fr.emp,Fr.disj_symm (Fr.emp_disj _),Fr.sub_refl _,Fr.emp_sub _,h2,trivial⟩
theorem EachP.pureR {α:Type} {T:Rp α}:∀ {bs:List (List Value)} {as:List α} {m:Fr},All2 (T.rel Fr.emp) bs as→EachP (RdW T) bs as m
 |[],[],_,_=>trivial
 |_::_,_::_,m,⟨h,t⟩=>⟨Fr.emp,m,Fr.emp_disj _,Fr.emp_sub _,Fr.sub_refl _,h,m,Fr.emp,Fr.disj_symm (Fr.emp_disj _),Fr.sub_refl _,Fr.emp_sub _,EachP.pureR t,trivial⟩
theorem sat_snoc2 {A B C:SProp} {m:Fr} (h:Sat [A,B] m) (hC:C Fr.emp):Sat [A,B,C] m:=by
 obtain ⟨h1,h2,d,s1,s2,x,h3,h4,d2,t1,t2,y,_⟩:=h;exact ⟨h1,h2,d,s1,s2,x,h3,Fr.emp,Fr.disj_symm (Fr.emp_disj _),t1,Fr.emp_sub _,y,Fr.emp,Fr.emp,Fr.emp_disj _,Fr.sub_refl _,Fr.sub_refl _,hC,trivial⟩
theorem LentL.fold {α:Type} {L:Lp α} {e:TypeId} {f:Int→α} {a:Option Addr} {c:Nat} {xs:List α} {css dss:List (List Value)} {m:Fr} (hr:xs.length+12≤c) (hc:css.length=xs.length) (hd:All2 (L.rp.rel Fr.emp) dss (mks f 12))
  (h:Sat [OwnP (Rp.cells L.rp.k) e (.slice a (xs.length+12) c) (css++dss),EachP L.own css xs] m):LentL L e f (.slice a xs.length c) xs m :=
 ⟨a,c,css,dss,rfl,hr,hc,hd.len2.trans (mks_length f 12),sat_snoc2 h (EachP.pureR hd)⟩
theorem All2.at2 {α β:Type} {R:α→β→Prop}:∀ {xs:List α} {ys:List β} (_:All2 R xs ys) (i:Nat) (hx:i<xs.length) (hy:i<ys.length),R xs[i] ys[i]
 |_::_,_::_,⟨h,_⟩,0,_,_=>h
 |_::_,_::_,⟨_,t⟩,i+1,hx,hy=>All2.at2 t i (Nat.lt_of_succ_lt_succ hx) (Nat.lt_of_succ_lt_succ hy)
theorem Gp.mkP {α β:Type} {T:Rp α} {B:Gp β} {c d:List Value} {x:α} {y:β} {W:List SProp} (h:T.rel Fr.emp c x) (hB:∀ m,Sat W m→B.own d y m):∀ m,Sat W m→(Gp.prod (Gp.pure T) B).own (c++d) (x,y) m:=fun m s=>Gp.own_pure_prod h (hB m s)
theorem Gp.mkW {α β:Type} {A:Gp α} {B:Gp β} {c d:List Value} {x:α} {y:β} {w:SProp} {W:List SProp} (hA:∀ m,w m→A.own c x m) (hB:∀ m,Sat W m→B.own d y m):∀ m,Sat (w::W) m→(Gp.prod A B).own (c++d) (x,y) m :=
 fun _ ⟨k1,k2,dj,s1,s2,o,st⟩=>⟨c,d,rfl,k1,k2,dj,s1,s2,hA _ o,k2,Fr.emp,Fr.disj_symm (Fr.emp_disj _),Fr.sub_refl _,Fr.emp_sub _,hB _ st,trivial⟩
theorem Lp.mkP {α β:Type} {T:Rp α} {B:Lp β} {c d:List Value} {x:α} {y:β} {W:List SProp} (h:T.rel Fr.emp c x) (hB:∀ m,Sat W m→B.own d y m):∀ m,Sat W m→(Lp.prod (Lp.pure T) B).own (c++d) (x,y) m:=fun m s=>Lp.own_pure_prod h (hB m s)
theorem Lp.mkW {α β:Type} {A:Lp α} {B:Lp β} {c d:List Value} {x:α} {y:β} {w:SProp} {W:List SProp} (hA:∀ m,w m→A.own c x m) (hB:∀ m,Sat W m→B.own d y m):∀ m,Sat (w::W) m→(Lp.prod A B).own (c++d) (x,y) m :=
 fun _ ⟨k1,k2,dj,s1,s2,o,st⟩=>⟨c,d,rfl,k1,k2,dj,s1,s2,hA _ o,k2,Fr.emp,Fr.disj_symm (Fr.emp_disj _),Fr.sub_refl _,Fr.emp_sub _,hB _ st,trivial⟩
end Go.Sp
end
end
end
