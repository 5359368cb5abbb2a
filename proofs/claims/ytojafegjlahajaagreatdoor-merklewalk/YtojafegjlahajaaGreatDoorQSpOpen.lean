/- Texts of this proof, one behind the other. -/
import Derived.Test.YtojafegjlahajaaGreatDoorQSpDefer
import Derived.Lib.ConvBytes
import Derived.RangeFuncRecord
import Derived.ChangeArms
import Derived.DataReads
import GoSem.ClaimJoined
section
/- Texts of this proof, one behind the other. -/
section
/- Texts of this proof. -/
namespace Go.Sp
def EachP {β α:Type} (A:β→α→SProp):List β→List α→SProp
 |[],[]=>fun _=>True
 |b::bs,a::as=>fun h=>Sat [A b a,EachP A bs as] h
 |_,_=>fun _=>False
theorem Sat.two {A B:SProp} {m:Fr}:Sat [A,B] m↔∃ h1 h2:Fr,h1.disj h2∧h1.sub m∧h2.sub m∧A h1∧(∃ h3:Fr,h3.sub h2∧B h3):=by
 constructor
 ·rintro ⟨h1,h2,d,s1,s2,x,k1,k2,_,t1,_,y,_⟩
  exact ⟨h1,h2,d,s1,s2,x,k1,t1,y⟩
 ·rintro ⟨h1,h2,d,s1,s2,x,h3,t,y⟩
  exact ⟨h1,h2,d,s1,s2,x,h3,Fr.emp,Fr.disj_symm (Fr.emp_disj _),t,Fr.emp_sub _,y,trivial⟩
theorem EachP.snoc {β α:Type} {A:β→α→SProp} {b:β} {a:α}:∀ {bs:List β} {as:List α} {m:Fr},Sat [EachP A bs as,A b a] m→∃ h:Fr,h.sub m∧EachP A (bs++[b]) (as++[a]) h
 |[],[],m,h=>⟨m,Fr.sub_refl _,by
  have h2:Sat [A b a] m:=h.tail';exact Sat.append (η:=[A b a]) (ζ:=[EachP A [] []]) (Fr.disj_symm (Fr.emp_disj _)) h2 ⟨Fr.emp,Fr.emp,Fr.emp_disj _,Fr.emp_sub _,Fr.emp_sub _,trivial,trivial⟩ |>Sat.mono (Fr.add_sub (Fr.sub_refl _) (Fr.emp_sub _))⟩
 |[],_::_,_,h=>by obtain ⟨_,_,_,_,_,x,_⟩:=h;exact x.elim
 |_::_,[],_,h=>by obtain ⟨_,_,_,_,_,x,_⟩:=h;exact x.elim
 |b' ::bs,a' ::as,m,h=>by
  obtain ⟨h1,h2,d,s1,s2,x,y⟩:=h;have x' :Sat [A b' a',EachP A bs as] h1:=x;obtain ⟨k1,k2,kd,t1,t2,p,q⟩:=x';have hq:Sat [EachP A bs as,A b a] (k2.add h2):=Sat.append (η:=[EachP A bs as]) (ζ:=[A b a]) (Fr.disj_sub d t2 (Fr.sub_refl _)) q y;obtain ⟨h3,u,z⟩:=EachP.snoc hq;refine ⟨m,Fr.sub_refl _,?_⟩
  show Sat [A b' a',EachP A (bs++[b]) (as++[a])] m
  refine ⟨k1,k2.add h2,Fr.disj_add_right kd (Fr.disj_sub d t1 (Fr.sub_refl _)),Fr.sub_trans t1 s1,Fr.add_sub (Fr.sub_trans t2 s1) s2,p,h3,Fr.emp,Fr.disj_symm (Fr.emp_disj _),u,Fr.emp_sub _,z,trivial⟩
theorem EachP.all2 {β α:Type} {A:β→α→SProp} {R:β→α→Prop} {k:Fr} (hA:∀ b a m,A b a m→m.sub k→R b a):∀ {bs:List β} {as:List α} {m:Fr},EachP A bs as m→m.sub k→All2 R bs as
 |[],[],_,_,_=>trivial
 |[],_::_,_,h,_=>h.elim
 |_::_,[],_,h,_=>h.elim
 |b::bs,a::as,m,h,s=>by
  have h' :Sat [A b a,EachP A bs as] m:=h;obtain ⟨k1,k2,_,t1,t2,p,k3,_,_,u,_,q,_⟩:=h';exact ⟨hA b a k1 p (Fr.sub_trans t1 s),EachP.all2 hA q (Fr.sub_trans u (Fr.sub_trans t2 s))⟩
abbrev RowsP {α:Type} (T:Rp α) (e:TypeId) (vs:List Value) (xss:List (List α)):SProp:=EachP (OwnP T e) vs xss
section
variable {ro:Option Nat} {P:Program} {fn:Func} {n:Nat} {R:Ending→World→Prop} {k:List Item} {σ:List (Nat × Value)} {D:List Deferred} {g:Gr} {η ζ θ:List SProp} {ops:Array Oper} {L:List Nat}
theorem Sat.each {β α:Type} {A:β→α→SProp} {b:β} {a:α} {bs:List β} {as:List α} {m:Fr} (h:Sat (EachP A bs as::A b a::θ) m):Sat (EachP A (bs++[b]) (as++[a])::θ) m:=by
 obtain ⟨h1,h2,d,s1,s2,x,k1,k2,kd,t1,t2,y,z⟩:=h;obtain ⟨h3,u,w⟩:=EachP.snoc (Sat.append (η:=[EachP A bs as]) (ζ:=[A b a]) (Fr.disj_sub d (Fr.sub_refl _) t1) ⟨h1,Fr.emp,Fr.disj_symm (Fr.emp_disj _),Fr.sub_refl _,Fr.emp_sub _,x,trivial⟩ ⟨k1,Fr.emp,Fr.disj_symm (Fr.emp_disj _),Fr.sub_refl _,Fr.emp_sub _,y,trivial⟩);exact ⟨h3,k2,Fr.disj_sub (Fr.disj_add (Fr.disj_sub d (Fr.sub_refl _) t2) kd) u (Fr.sub_refl _),Fr.sub_trans u (Fr.add_sub s1 (Fr.sub_trans t1 s2)),Fr.sub_trans t2 s2,w,z⟩
theorem O.each {β α:Type} {A:β→α→SProp} {b:β} {a:α} {bs:List β} {as:List α} (s1:Sel η (EachP A bs as) ζ) (s2:Sel ζ (A b a) θ) (h:O ro P fn n R ops L k σ D g (EachP A (bs++[b]) (as++[a])::θ)):O ro P fn n R ops L k σ D g η :=
 O.sel s1 (O.imp (η:=EachP A bs as::ζ) (fun _ x=>Sat.each (Sat.cons_imp (fun _ y=>y) (fun _ y=>Sat.perm s2.perm y) x)) h)
theorem S.imp' {todo:List Item} (hs:∀ m,Sat η m→Sat ζ m) (h:S ro P fn n R todo σ D g ζ):S ro P fn n R todo σ D g η:=fun a w hf hd hw=>h a w hf hd (hw.imp hs)
theorem S.each {todo:List Item} {β α:Type} {A:β→α→SProp} {b:β} {a:α} {bs:List β} {as:List α} (s1:Sel η (EachP A bs as) ζ) (s2:Sel ζ (A b a) θ) (h:S ro P fn n R todo σ D g (EachP A (bs++[b]) (as++[a])::θ)):S ro P fn n R todo σ D g η :=
 S.sel s1 (S.imp' (η:=EachP A bs as::ζ) (fun _ x=>Sat.each (Sat.cons_imp (fun _ y=>y) (fun _ y=>Sat.perm s2.perm y) x)) h)
theorem Sat.rows {α:Type} {T:Rp α} {e e' :TypeId} {v:Value} {vs:List Value} {xss:List (List α)} {m:Fr} (h:Sat [OwnP Rp.val e v vs,RowsP T e' vs xss] m):Arr (Rp.slice T) m v xss:=by
 obtain ⟨h1,h2,_,s1,s2,x,h3,_,_,t,_,y,_⟩:=h;exact (x.arr.mono s1).rows (EachP.all2 (fun b a m' z s=>z.arr.mono s) y (Fr.sub_trans t s2))
theorem sat_rows {α:Type} {T:Rp α} {e e' :TypeId} {v:Value} {vs:List Value} {xss:List (List α)} (s1:Sel η (OwnP Rp.val e v vs) ζ) (s2:Sel ζ (RowsP T e' vs xss) θ) (m:Fr) (h:Sat η m):Sat ((fun m=>Arr (Rp.slice T) m v xss)::θ) m:=by
 obtain ⟨h1,h2,d,t1,t2,x,y⟩:=Sat.perm s1.perm h;obtain ⟨k1,k2,kd,u1,u2,p,q⟩:=Sat.perm s2.perm y;refine ⟨h1.add k1,k2,Fr.disj_add (Fr.disj_sub d (Fr.sub_refl _) u2) kd,Fr.add_sub t1 (Fr.sub_trans u1 t2),Fr.sub_trans u2 t2,?_,q⟩;exact Sat.rows (Sat.append (η:=[OwnP Rp.val e v vs]) (ζ:=[RowsP T e' vs xss]) (Fr.disj_sub d (Fr.sub_refl _) u1) ⟨h1,Fr.emp,Fr.disj_symm (Fr.emp_disj _),Fr.sub_refl _,Fr.emp_sub _,x,trivial⟩ ⟨k1,Fr.emp,Fr.disj_symm (Fr.emp_disj _),Fr.sub_refl _,Fr.emp_sub _,p,trivial⟩)
theorem S.retCellAgg {tt b:Nat} {ty T:TypeId} {cs:List Value} (hr:fn.results=#[.cell tt ty]) (hty:∀ w,(isAgg ty).run P w=.ok true w) (hsz:(P.info? ty).map (·.size)=some cs.length) (hl:look σ tt=some (.pointer (some ⟨b,0,none⟩))) (hs:Sel η (obj b T cs) ζ)
  (h:∀ w,Holds w g (obj b T cs::ζ)→R (.returned (.agg cs.toArray)) w):S none P fn n R (.code .ret::k) σ [] g η:=by
 refine S.retL fun a w hf hd hw=>?_;have hw' :=hw.sel hs;refine ⟨.agg cs.toArray,?_,h w hw'⟩;have hc0:=run_loadCells_list (P:=P) w ⟨b,0,none⟩ cs fun j v hj=>by
  rw [add_lit];exact hw'.obj_cell (by simpa using hj)
 have hl' :=hf.2 tt _ hl
 simp [results,hr,Array.getD_eq_getD_getElem?,hl',asAddr,loadVar,hty,run_sizeOf hsz,hc0]
theorem O.frzR {α:Type} {T:Rp α} {e e' :TypeId} {v:Value} {vs:List Value} {xss:List (List α)} (s1:Sel η (OwnP Rp.val e v vs) ζ) (s2:Sel ζ (RowsP T e' vs xss) θ) (h:∀ g' :Gr,g.h.sub g'.h→(∀ w ζ,Holds w g' ζ→Holds w g ζ)→Arr (Rp.slice T) g'.h v xss→O ro P fn n R ops L k σ D g' θ):O ro P fn n R ops L k σ D g η :=
 O.imp (sat_rows s1 s2) (O.frzW Sel.here h)
end
section
variable {ro:Option Nat} {P:Program} {σ:List (Nat × Value)} {g:Gr} {η ζ:List SProp} {fn:Func} {n:Nat} {R:Ending→World→Prop} {k:List Item} {D:List Deferred} {ops:Array Oper} {i d:Nat} {l:List Nat}
 {t e:TypeId} {x y z:Operand} {v:Value} {ka kb:IntKind} {za zb:Int} {a b:Nat} {α:Type} {T:Rp α} {xs:List α} {r:Fr}
theorem Con.lentD {f:FuncId} {args:Array Value} {h:Fr} {bs:List SProp} {Post:Ending→List SProp→Prop} (con:∀ m:Fr,Sat bs m→h.disj m→Con P f args (h.add m) η Post) :
  Con P f args h (η++bs) Post:=fun g hg w hw=>by
 obtain ⟨m,hm,hd,hw'⟩:=Holds.freezeAll (η:=η) (ζ:=bs) hw;have hd' :h.disj m:=Fr.disj_sub hd hg (Fr.sub_refl _);exact (con m hm hd' (g.add m) (Fr.add_sub (Fr.sub_trans hg (Fr.sub_add_left _ _)) (Fr.sub_add_right hd)) w hw').mono fun e w' ⟨η',x,y⟩=>⟨η',x,y.melt hd⟩
theorem O.callSs {f:FuncId} {xs:Array Operand} {ts:Array TypeId} {vals:List Value} {K' :Value→List SProp→Prop} {first cap:Array Value} (ho:Fires ops i n σ d (.call ⟨.value x,xs,ts⟩)) (hx:ev σ x=some (.func (.func f) first cap)) (hc:callable P f=true)
  (hv:evs σ xs.toList=some vals) {args:Array Value} (hargs:first++vals.toArray++cap=args) {bs:List SProp} (hb:Sels η bs ζ) (con:Con P f args g.h bs (Ret K'))
  (h:∀ v η',K' v η' →O ro P fn n R ops l k ((d,v)::σ) D g (η' ++ζ)):O ro P fn n R ops (i::l) k σ D g η :=
 fun a w hf hd hw=>O.call (ζ:=ζ) ho hx hc hv hargs con h a w hf hd (hw.perm hb.perm)
theorem ODg.callSs {f:FuncId} {xs:Array Operand} {ts:Array TypeId} {vals:List Value} {K' :Value→List SProp→Prop} {first cap:Array Value} (ho:Fires ops i n σ d (.call ⟨.value x,xs,ts⟩)) {fl:Bool} (hd:hdOk fl ops i l=true) (hx:ev σ x=some (.func (.func f) first cap)) (hc:callable P f=true)
  (hv:evs σ xs.toList=some vals) {args:Array Value} (hargs:first++vals.toArray++cap=args) {bs:List SProp} (hb:Sels η bs ζ) (con:Con P f args g.h bs (Ret K'))
  (h:∀ v η',K' v η' →OD P fn n R ops k D g l ((d,v)::σ) (η' ++ζ)):ODx P fn n R ops k D g fl (i::l) σ η :=
 ODx.perm hb.perm (ODg.call (ζ:=ζ) ho hd hx hc hv hargs con h)
theorem OD.callSs {f:FuncId} {xs:Array Operand} {ts:Array TypeId} {vals:List Value} {K' :Value→List SProp→Prop} {first cap:Array Value} (ho:Fires ops i n σ d (.call ⟨.value x,xs,ts⟩)) (hd:descOk ops [i] l=true) (hx:ev σ x=some (.func (.func f) first cap)) (hc:callable P f=true) (hv:evs σ xs.toList=some vals) {args:Array Value} (hargs:first++vals.toArray++cap=args) {bs:List SProp} (hb:Sels η bs ζ) (con:Con P f args g.h bs (Ret K')) (h:∀ v η',K' v η' →OD P fn n R ops k D g l ((d,v)::σ) (η' ++ζ)):OD P fn n R ops k D g (i::l) σ η:=ODg.callSs (fl:=false) ho (by simpa [hdOk] using hd) hx hc hv hargs hb con h
theorem ODt.callSs {f:FuncId} {xs:Array Operand} {ts:Array TypeId} {vals:List Value} {K' :Value→List SProp→Prop} {first cap:Array Value} (ho:Fires ops i n σ d (.call ⟨.value x,xs,ts⟩)) (_:true=true) (hx:ev σ x=some (.func (.func f) first cap)) (hc:callable P f=true) (hv:evs σ xs.toList=some vals) {args:Array Value} (hargs:first++vals.toArray++cap=args) {bs:List SProp} (hb:Sels η bs ζ) (con:Con P f args g.h bs (Ret K')) (h:∀ v η',K' v η' →OD P fn n R ops k D g l ((d,v)::σ) (η' ++ζ)):ODx P fn n R ops k D g true (i::l) σ η:=ODg.callSs (fl:=true) ho rfl hx hc hv hargs hb con h
theorem OD.sliceTo (ho:Fires ops i n σ d (.slice t x none (some y) none)) (ht:P.underlying t=some (.slice e)) (he:(P.info? e).map (·.size)=some T.k) (hx:ev σ x=some v) (hy:ev σ y=some (.int kb zb)) (hs:Arr T r v xs) (hz:zb=(b:Int)) (hb:b≤xs.length)
  (h:∀ u,Arr T r u (xs.take b)→OD P fn n R ops k D g l ((d,u)::σ) η):OD P fn n R ops k D g (i::l) σ η:=by
 subst hz;obtain ⟨u,h1,h2⟩:=slice_does (g:=g) (a:=0) (b:=b) (kl:=.i64) ht he hx (lo:=none) (hi:=some y) (fun _ h=>nomatch h) (fun _=>rfl) (fun _ h=>by cases h;exact hy) (fun h=>nomatch h) hs (Nat.zero_le _) hb;exact .quiet ho rfl h1 (h u h2)
theorem OD.sliceFrom (ho:Fires ops i n σ d (.slice t x (some y) none none)) (ht:P.underlying t=some (.slice e)) (he:(P.info? e).map (·.size)=some T.k) (hx:ev σ x=some v) (hy:ev σ y=some (.int ka za)) (hs:Arr T r v xs) (hz:za=(a:Int)) (ha:a≤xs.length)
  (h:∀ u,Arr T r u (xs.drop a)→OD P fn n R ops k D g l ((d,u)::σ) η):OD P fn n R ops k D g (i::l) σ η:=by
 subst hz;obtain ⟨u,h1,h2⟩:=slice_does (g:=g) (a:=a) (b:=xs.length) (kh:=.i64) ht he hx (lo:=some y) (hi:=none) (fun _ h=>by cases h;exact hy) (fun h=>nomatch h) (fun _ h=>nomatch h) (fun _=>rfl) hs ha (Nat.le_refl _);exact .quiet ho rfl h1 (h u (by rw [List.take_length] at h2;exact h2))
theorem ODg.storeObj {t T:TypeId} {x y:Operand} {b i:Nat} {cs news:List Value} {v:Value} {j:Nat} (ho:opAtU ops j=some (.store t x y)) {fl:Bool} (hd:hdOk fl ops j l=true) (hsz:(P.info? t).map (·.size)=some news.length) (hx:ev σ x=some (.pointer (some ⟨b,i,none⟩))) (hy:ev σ y=some v)
  (hv:v.cells.toList=news) (h1:news.all (·.oneCell')=true) (hs:Sel η (obj b T cs) ζ) (hl:i+news.length≤cs.length)
  (h:OD P fn n R ops k D g l σ (obj b T (cs.take i++news++cs.drop (i+news.length))::ζ)):ODx P fn n R ops k D g fl (j::l) σ η :=
 ODx.perm hs.perm (ODg.loudU (η:=obj b T cs::ζ) (η' :=obj b T (cs.take i++news++cs.drop (i+news.length))::ζ) ho rfl hd (fun _=>.storeObj hsz hx hy hv h1 Sel.here hl) h)
theorem OD.storeObj {t T:TypeId} {x y:Operand} {b i:Nat} {cs news:List Value} {v:Value} {j:Nat} (ho:opAtU ops j=some (.store t x y)) (hd:descOk ops [j] l=true) (hsz:(P.info? t).map (·.size)=some news.length) (hx:ev σ x=some (.pointer (some ⟨b,i,none⟩))) (hy:ev σ y=some v) (hv:v.cells.toList=news) (h1:news.all (·.oneCell')=true) (hs:Sel η (obj b T cs) ζ) (hl:i+news.length≤cs.length) (h:OD P fn n R ops k D g l σ (obj b T (cs.take i++news++cs.drop (i+news.length))::ζ)):OD P fn n R ops k D g (j::l) σ η:=ODg.storeObj (fl:=false) ho (by simpa [hdOk] using hd) hsz hx hy hv h1 hs hl h
theorem ODg.store1 {t T:TypeId} {x y:Operand} {b i:Nat} {cs:List Value} {v:Value} {j:Nat} (ho:opAtU ops j=some (.store t x y)) {fl:Bool} (hd:hdOk fl ops j l=true) (ht:flat1 P t=true) (hx:ev σ x=some (.pointer (some ⟨b,i,none⟩))) (hy:ev σ y=some v)
  (h1:v.oneCell' =true) (hs:Sel η (obj b T cs) ζ) (hl:i<cs.length)
  (h:OD P fn n R ops k D g l σ (obj b T (cs.set i v)::ζ)):ODx P fn n R ops k D g fl (j::l) σ η :=
 ODx.perm hs.perm (ODg.loudU (η:=obj b T cs::ζ) (η' :=obj b T (cs.set i v)::ζ) ho rfl hd (fun _=>.store1 ht hx hy h1 Sel.here hl) h)
theorem OD.store1 {t T:TypeId} {x y:Operand} {b i:Nat} {cs:List Value} {v:Value} {j:Nat} (ho:opAtU ops j=some (.store t x y)) (hd:descOk ops [j] l=true) (ht:flat1 P t=true) (hx:ev σ x=some (.pointer (some ⟨b,i,none⟩))) (hy:ev σ y=some v) (h1:v.oneCell' =true) (hs:Sel η (obj b T cs) ζ) (hl:i<cs.length) (h:OD P fn n R ops k D g l σ (obj b T (cs.set i v)::ζ)):OD P fn n R ops k D g (j::l) σ η:=ODg.store1 (fl:=false) ho (by simpa [hdOk] using hd) ht hx hy h1 hs hl h
end
end Go.Sp
end
section
/- Texts of this proof, one behind the other. -/
section
/- Texts of this proof, one behind the other. -/
section
/- Texts of this proof, one behind the other. -/
section
/- Texts of this proof, one behind the other. -/
section
/- Texts of this proof. -/
namespace Go.Sp
section
variable {P:Program} {σ:List (Nat × Value)} {g:Gr} {η ζ θ:List SProp}
def Two {α:Type} (T:Rp α) (e:TypeId) (v:Value) (xs:List α) (u:Value) (ys:List α):SProp:=fun h =>
 (∃ a c,v=.slice a xs.length c∧u=.slice a (xs.length+ys.length) c∧OwnP T e u (xs++ys) h)∨Sat [OwnP T e u (xs++ys),OwnP T e v xs] h
theorem OwnP.take {α:Type} {T:Rp α} {e:TypeId} {a:Option Addr} {n m c:Nat} {xs ys:List α} {h:Fr} (hn:n=xs.length) (x:OwnP T e (.slice a m c) (xs++ys) h):OwnP T e (.slice a n c) xs h:=by
 subst hn;obtain ⟨css,h1,h2,h3⟩:=x;have hl:css.length=xs.length+ys.length:=by rw [h1.length];simp
 have ht:=h1.take xs.length;rw [List.take_left'] at ht
 ·refine ⟨css.take xs.length,ht,?_,?_⟩
  ·rw [← h1.flat_take,List.length_take,h2,List.length_append];exact Nat.min_eq_left (Nat.mul_le_mul_right _ (by omega))
  ·rcases h3 with ⟨h4,h5⟩|⟨b,cap,cur,h4,h5,h6,h7,h8,h9⟩
   ·cases h4
    simp at h5
    exact .inl ⟨by rw [h5.1];rfl,by rw [h5.1];rfl⟩
   ·cases h4
    refine .inr ⟨b,c,cur,rfl,h5,?_,h7,h8,?_⟩
    ·rw [List.length_append] at h6;omega
    ·rw [← h1.flat_take,← h9,List.take_take,List.length_append,Nat.min_eq_left (Nat.mul_le_mul_right _ (by omega))]
 ·rfl
end
end Go.Sp
end
section
/- Texts of this proof. -/
namespace Go.Sp
theorem EachP.len {β α:Type} {A:β→α→SProp}:∀ {bs:List β} {as:List α} {h:Fr},EachP A bs as h→bs.length=as.length
 |[],[],_,_=>rfl
 |[],_::_,_,h=>h.elim
 |_::_,[],_,h=>h.elim
 |_::_,_::_,_,h=>by
  have h' :Sat [_,EachP _ _ _] _:=h;obtain ⟨_,_,_,_,_,_,_,_,_,_,_,q,_⟩:=h'
  simp [EachP.len q]
theorem Sat.join2 {A B C:SProp} {θ:List SProp} (hs:∀ m,Sat [A,B] m→C m):∀ {m:Fr},Sat (A::B::θ) m→Sat (C::θ) m:=by
 rintro m ⟨h1,h2,d,s1,s2,x,k1,k2,kd,t1,t2,y,z⟩;refine ⟨h1.add k1,k2,Fr.disj_add (Fr.disj_sub d (Fr.sub_refl _) t2) kd,Fr.add_sub s1 (Fr.sub_trans t1 s2),Fr.sub_trans t2 s2,hs _ ?_,z⟩;have d2:h1.disj k1:=Fr.disj_sub d (Fr.sub_refl _) t1;exact ⟨h1,k1,d2,Fr.sub_add_left _ _,Fr.sub_add_right d2,x,k1,Fr.emp,Fr.disj_symm (Fr.emp_disj _),Fr.sub_refl _,Fr.emp_sub _,y,trivial⟩
section
variable {ro:Option Nat} {P:Program} {fn:Func} {n:Nat} {R:Ending→World→Prop} {k:List Item} {σ:List (Nat × Value)} {D:List Deferred} {g:Gr} {η ζ θ:List SProp} {ops:Array Oper} {L:List Nat} {β α:Type} {A:β→α→SProp} {todo:List Item}
theorem S.conv {B C:SProp} (s:Sel η B ζ) (hc:∀ m,B m→∃ h:Fr,h.sub m∧C h) (h:S ro P fn n R todo σ D g (C::ζ)):S ro P fn n R todo σ D g η :=
 S.sel s (S.imp' (η:=B::ζ) (ζ:=C::ζ) (fun _ ⟨_,h2,d,s1,s2,x,y⟩=>let ⟨h3,u,z⟩:=hc _ x;⟨h3,h2,Fr.disj_sub d u (Fr.sub_refl _),Fr.sub_trans u s1,s2,z,y⟩) h)
theorem S.factS {B:SProp} {p:Prop} (s:Sel η B ζ) (hs:∀ m,B m→p) (h:p→S ro P fn n R todo σ D g η):S ro P fn n R todo σ D g η :=
 fun a w hf hd hw=>by
  obtain ⟨_,_,_,_,_,_,_,_,_,_,_,_,hB,_⟩:=hw.sel s;exact h (hs _ hB) a w hf hd hw
end
end Go.Sp
end
end
section
/- Texts of this proof. -/
namespace Go.Sp
section
variable {P:Program} {σ:List (Nat × Value)} {g:Gr} {η ζ:List SProp} {t e:TypeId} {x:Operand}
theorem run_byteLoop (P:Program) (w:World) (f:Value→ByteArray→Sem (ForInStep ByteArray)) (hf:∀ (b:UInt8) s,f (byteV b) s=.pure (.yield (s.push b))):∀ (xs:List UInt8) (s:ByteArray),
  (forIn (xs.map byteV) s f:Sem ByteArray).run P w=.ok (⟨s.data++xs.toArray⟩) w
 |[],s=>by simp [forIn]
 |b::xs,s=>by
  have:=run_byteLoop P w f hf xs (s.push b);rw [List.map_cons,List.forIn_cons,hf];simp only [Sem.run_bind,Sem.run,Result.andThen_ok];rw [this];simp
theorem Does.toStr {v:Value} {xs:List UInt8} (ht:P.underlying t=some (.slice e)) (he:P.underlying e=some (.int .u8)) {t2:TypeId} (ht2:P.underlying t2=some .string) (hx:ev σ x=some v) (hs:Arr Rp.u8 g.h v xs) :
  Does P (.convert t t2 x) σ g η (.string (str xs)) η :=
 fun o ρ w ho hk hw=>by
  refine ⟨w,?_,hw⟩;obtain ⟨css,ha,a,cap,rfl,h1,h2,h3,h4⟩:=hs
  cases a with
  |none =>
   obtain ⟨rfl,_⟩:=Arr.nil_of (T:=Rp.u8) (xs:=xs) (by decide) ⟨css,ha,none,cap,rfl,h1,h2,h3,h4⟩
   simp [execOp,ho,hk x _ hx,convert,run_underlying ht,run_underlying he,run_underlying ht2,Conv.bytesToString]
   rfl
  |some a =>
   have hcs:css.flatten=xs.map byteV:=by
    clear h1 h2 h3 h4 hx
    induction css generalizing xs with
    |nil=>cases xs with
     |nil=>rfl
     |cons _ _=>exact ha.elim
    |cons c css ih=>cases xs with
     |nil=>exact ha.elim
     |cons b xs=>rw [List.flatten_cons,ih ha.2,show c=[byteV b] from ha.1];rfl
   have hr:=run_loadCells_list (P:=P) w a css.flatten fun j v hj=>by
    obtain ⟨hj',rfl⟩:=List.getElem?_eq_some_iff.1 hj;obtain ⟨p,hp,hc⟩:=h4 j hj'
    cases hp
    exact Fr.cell_mono hw.ground hc
   have hlen:css.flatten.length=xs.length:=by rw [hcs];simp
   rw [hlen] at hr
   simp [execOp,ho,hk x _ hx,convert,run_underlying ht,run_underlying he,run_underlying ht2,Conv.bytesToString,hr]
   rw [hcs,run_byteLoop P w _ (fun b s=>by simp [byteV];rfl)];have e0:(⟨ByteArray.empty.data++xs.toArray⟩:ByteArray)=str xs:=by
    show (⟨#[]++xs.toArray⟩:ByteArray)=_
    simp [str]
   rw [e0];rfl
end
end Go.Sp
end
end
section
/- Texts of this proof. -/
namespace Go.Sp
def u64 (n:Int):Nat:=(n % 18446744073709551616).toNat
def beAt (n:Int) (i:Nat):UInt8:=UInt8.ofNat (u64 n / 256 ^ i)
def be (n:Int):List UInt8:=[beAt n 7,beAt n 6,beAt n 5,beAt n 4,beAt n 3,beAt n 2,beAt n 1,beAt n 0]
@[simp] theorem be_length (n:Int):(be n).length=8:=rfl
theorem be_get (n:Int) (i:Nat) (h:i<8):(be n)[7 - i]?=some (beAt n i):=by
 match i,h with
 |0,_|1,_|2,_|3,_|4,_|5,_|6,_|7,_=>rfl
theorem u64_lt (n:Int):u64 n<18446744073709551616:=by unfold u64;omega
theorem wrap_u64_eq (n:Int):IntKind.u64.wrap n=(u64 n:Int):=by
 have:IntKind.u64.wrap n=n % 18446744073709551616:=by simp [IntKind.wrap,IntKind.bits,IntKind.signed]
 rw [this];unfold u64;omega
theorem wrap_u8_eq (n:Int):IntKind.u8.wrap n=n % 256:=by simp [IntKind.wrap,IntKind.bits,IntKind.signed]
theorem shift_byte (n:Int) (i:Nat) (h:i<8) (z:Int) (hz:z=8*(i:Int)):IntKind.u8.wrap ((IntKind.u64.wrap n).fdiv (2 ^ min z.toNat IntKind.u64.bits))=((beAt n i).toNat:Int):=by
 subst hz;have e1:min (8*(i:Int)).toNat IntKind.u64.bits=8*i:=by simp [IntKind.bits];omega
 rw [e1,wrap_u64_eq,wrap_u8_eq];have e2:((2:Int) ^ (8*i))=((256 ^ i:Nat):Int):=by
  rw [Int.pow_mul,Int.natCast_pow];rfl
 rw [e2];have e3:((u64 n:Nat):Int).fdiv ((256 ^ i:Nat):Int)=((u64 n / 256 ^ i:Nat):Int):=by
  rw [Int.fdiv_eq_ediv_of_nonneg _ (Int.natCast_nonneg _)];rfl
 rw [e3];unfold beAt;have:(UInt8.ofNat (u64 n / 256 ^ i)).toNat=u64 n / 256 ^ i % 256:=by simp
 rw [this];omega
def beVal (xs:List UInt8):Nat:=xs.foldl (fun n c=>n*256+c.toNat) 0
theorem beVal_snoc (xs:List UInt8) (c:UInt8):beVal (xs++[c])=beVal xs*256+c.toNat:=by simp [beVal]
theorem pow256_succ (n:Nat):256 ^ (n+1)=256 ^ n*256:=Nat.pow_succ ..
theorem beVal_take (xs:List UInt8) (i:Nat) (h:i<xs.length):beVal (xs.take (i+1))=beVal (xs.take i)*256+xs[i].toNat:=by
 rw [List.take_succ_eq_append_getElem h,beVal_snoc]
theorem beVal_lt (xs:List UInt8) (i:Nat):beVal (xs.take i)<256 ^ i:=by
 induction i with
 |zero=>simp [beVal]
 |succ i ih =>
  by_cases h:i<xs.length
  ·rw [beVal_take xs i h,pow256_succ]
   have:=xs[i].toNat_lt
   omega
  ·have e:xs.take (i+1)=xs.take i:=by rw [List.take_of_length_le (by omega),List.take_of_length_le (by omega)]
   rw [e,pow256_succ];omega
theorem beVal_lt7 (xs:List UInt8) (i:Nat) (hi:i<8):beVal (xs.take i)<72057594037927936 :=
 Nat.lt_of_lt_of_le (beVal_lt xs i) (Nat.le_trans (Nat.pow_le_pow_right (by decide) (show i≤7 by omega)) (by decide))
theorem or_byte (n:Nat) (c:UInt8) (hn:n<72057594037927936) :
  bitsOf .or .u64 (IntKind.u64.wrap ((n:Int)*2 ^ min (8:Int).toNat IntKind.u64.bits)) (IntKind.u64.wrap (c.toNat:Int))=((n*256+c.toNat:Nat):Int):=by
 have hc:=c.toNat_lt;have e0:((n:Int)*2 ^ min (8:Int).toNat IntKind.u64.bits)=((n*256:Nat):Int):=by simp [IntKind.bits]
 have w:∀ k:Nat,k<18446744073709551616→IntKind.u64.wrap (k:Int)=k:=fun k h=>by rw [wrap_u64_eq];unfold u64;omega
 rw [e0, w _ (by omega), w _ (by omega)];have e1 : (n * 256) ||| c.toNat = n * 256 + c.toNat := by
  have:=Nat.shiftLeft_add_eq_or_of_lt (b:=c.toNat) (i:=8) (by omega) n;rw [Nat.shiftLeft_eq] at this;exact this.symm
 have e2:∀ k:Nat,k<18446744073709551616→(BitVec.ofInt IntKind.u64.bits (k:Int)).toNat=k:=fun k h=>by rw [BitVec.toNat_ofInt];simp only [IntKind.bits];omega
 simp only [bitsOf,BitVec.toNat_or];rw [e2 _ (by omega),e2 _ (by omega),e1,w _ (by omega)]
def s64 (n:Nat):Int:=if n<9223372036854775808 then n else n - 18446744073709551616
theorem wrap_i64_eq (n:Nat) (h:n<18446744073709551616):IntKind.i64.wrap (n:Int)=s64 n:=by
 rw [IntKind.wrap_i64];unfold s64;split<;>omega
theorem s64_in (n:Nat) (h:n<18446744073709551616):InI64 (s64 n):=by unfold s64 InI64;split<;>omega
theorem beVal_be (n:Int):beVal (be n)=u64 n:=by
 have h:=u64_lt n;simp only [beVal,be,List.foldl_cons,List.foldl_nil,beAt,UInt8.toNat_ofNat'];generalize u64 n=k at h ⊢;simp only [show (256:Nat)^7=72057594037927936 from rfl,show (256:Nat)^6=281474976710656 from rfl,show (256:Nat)^5=1099511627776 from rfl,show (256:Nat)^4=4294967296 from rfl,show (256:Nat)^3=16777216 from rfl,show (256:Nat)^2=65536 from rfl,show (256:Nat)^1=256 from rfl,show (256:Nat)^0=1 from rfl]
 omega
theorem s64_be (n:Int) (h:InI64 n):s64 (beVal (be n))=n:=by
 rw [beVal_be];unfold s64 u64;unfold InI64 at h;split<;>omega
def bytesOf (xs:List UInt8):List UInt8:=be xs.length++xs
@[simp] theorem bytesOf_length (xs:List UInt8):(bytesOf xs).length=8+xs.length:=by simp [bytesOf]
end Go.Sp
end
end
section
/- Texts of this proof. -/
namespace Go.Sp
section
variable {ro:Option Nat} {P:Program} {fn:Func} {n:Nat} {R:Ending→World→Prop} {k:List Item} {σ:List (Nat × Value)} {D:List Deferred} {g:Gr} {η ζ θ:List SProp} {ops:Array Oper} {L l:List Nat} {i d:Nat} {t e:TypeId} {x y z:Operand} {α:Type} {T:Rp α}
theorem S.unroll {c:Code} (h:S ro P fn n R (.code c::.inLoop c::k) σ D g η):S ro P fn n R (.code (.loop c)::k) σ D g η :=
 S.loop (fun _:Unit=>True) (fun _=>σ) (fun _=>η) (fun _=>0) () trivial Sub.refl rfl fun _ _ _=>h
theorem Does.sliceTo0 {kb:IntKind} {a:Option Addr} {m c q:Nat} {zb:Int} (ht:P.underlying t=some (.slice e)) (he:(P.info? e).map (·.size)=some T.k) (hx:ev σ x=some (.slice a m c)) (hy:ev σ y=some (.int kb zb)) (hz:zb=(q:Int)) (hq:q≤c) :
  Does P (.slice t x none (some y) none) σ g η (.slice a q c) η :=
 fun o ρ w ho hk hw=>⟨w,by
  subst hz
  cases a<;>simp [execOp,ho,hk x _ hx,hk y _ hy,Instr.sliceAt,run_underlying ht,Instr.slice,Instr.sliceBounds,Instr.sliceBound,asIntOf,hq,run_sizeOf he,Addr.add],hw⟩
theorem Does.min2 {kd:IntKind} {a b:Int} (hx:ev σ x=some (.int kd a)) (hy:ev σ y=some (.int kd b)) :
  Does P (.call ⟨.builtin .min,#[x,y],#[t,t]⟩) σ g η (.int kd (if b<a then b else a)) η :=
 fun o ρ w ho hk hw=>⟨w,by
  simp [execOp,ho,hk x _ hx,hk y _ hy,resolve,invoke,builtin,Builtin.min_,Builtin.min2],hw⟩
theorem Sel.app {η ζ θ:List SProp} {A:SProp} (s:Sel η A ζ):Sel (η++θ) A (ζ++θ):=by
 induction s with
 |here=>exact .here
 |there _ ih=>exact .there ih
theorem ODg.litP {fl:Bool} {by_ len:Nat} {z:List Value} {parts:Array (Nat × Operand)} {vs:List Value} {ys:List α} (ho:Fires ops i n σ d (.buildSlice t len parts)) (hd:hdOk fl ops i l=true) (ht:P.underlying t=some (.slice e)) (he:elemIs P e T.k by_ z) (hk:0<T.k)
  (hp:partsOf σ parts.toList 0=some vs) (hlen:parts.toList.length=len) (hvs:All2 (T.rel Fr.emp) (vs.map (·.cells.toList)) ys) (h24:len*T.k≤16777216)
  (h:∀ a c,OD P fn n R ops k D g l ((d,.slice a len c)::σ) (OwnP T e (.slice a len c) ys::η)):ODx P fn n R ops k D g fl (i::l) σ η :=
 ODg.loudE (K:=fun v η' =>∃ a c,v=.slice a len c∧η' =OwnP T e v ys::η) ho rfl hd (fun _=>(DoesE.litP ht he hk hp hlen hvs h24).imp fun _ _ ⟨a,c,h1,h2⟩=>⟨_,⟨a,c,h1,rfl⟩,h2⟩)
  fun _ _ ⟨a,c,h1,h2⟩=>by subst h1;subst h2;exact h a c
theorem OD.litP {by_ len:Nat} {z:List Value} {parts:Array (Nat × Operand)} {vs:List Value} {ys:List α} (ho:Fires ops i n σ d (.buildSlice t len parts)) (hd:descOk ops [i] l=true) (ht:P.underlying t=some (.slice e)) (he:elemIs P e T.k by_ z) (hk:0<T.k) (hp:partsOf σ parts.toList 0=some vs) (hlen:parts.toList.length=len) (hvs:All2 (T.rel Fr.emp) (vs.map (·.cells.toList)) ys) (h24:len*T.k≤16777216) (h:∀ a c,OD P fn n R ops k D g l ((d,.slice a len c)::σ) (OwnP T e (.slice a len c) ys::η)):OD P fn n R ops k D g (i::l) σ η:=ODg.litP (fl:=false) ho (by simpa [hdOk] using hd) ht he hk hp hlen hvs h24 h
theorem ODt.litP {by_ len:Nat} {z:List Value} {parts:Array (Nat × Operand)} {vs:List Value} {ys:List α} (ho:Fires ops i n σ d (.buildSlice t len parts)) (_:true=true) (ht:P.underlying t=some (.slice e)) (he:elemIs P e T.k by_ z) (hk:0<T.k) (hp:partsOf σ parts.toList 0=some vs) (hlen:parts.toList.length=len) (hvs:All2 (T.rel Fr.emp) (vs.map (·.cells.toList)) ys) (h24:len*T.k≤16777216) (h:∀ a c,OD P fn n R ops k D g l ((d,.slice a len c)::σ) (OwnP T e (.slice a len c) ys::η)):ODx P fn n R ops k D g true (i::l) σ η:=ODg.litP (fl:=true) ho rfl ht he hk hp hlen hvs h24 h
theorem ODg.appendO {fl:Bool} {by_:Nat} {z:List Value} {v u:Value} {xs ys:List α} (ho:Fires ops i n σ d (.call ⟨.builtin .append,#[x,y],#[t,t]⟩)) (hd:hdOk fl ops i l=true) (ht:P.underlying t=some (.slice e)) (he:elemIs P e T.k by_ z) (hk:0<T.k) (hx:ev σ x=some v) (hy:ev σ y=some u)
  (hl:Sel η (OwnP T e u ys) θ) (hs:Sel θ (OwnP T e v xs) ζ) (hb:(xs.length+ys.length)*by_≤140737488355328) (h63:xs.length+ys.length≤9223372036854775807)
  (h:∀ a c,OD P fn n R ops k D g l ((d,.slice a (xs.length+ys.length) c)::σ) (OwnP T e (.slice a (xs.length+ys.length) c) (xs++ys)::ζ)):ODx P fn n R ops k D g fl (i::l) σ η :=
 ODg.loudE (K:=fun v' η' =>∃ a c,v' =.slice a (xs.length+ys.length) c∧η' =OwnP T e v' (xs++ys)::ζ) ho rfl hd (fun _=>(DoesE.appendO ht he hk hx hy hl.app hs.app hb h63).imp fun _ _ ⟨a,c,h1,h2⟩=>⟨_,⟨a,c,h1,rfl⟩,h2⟩)
  fun _ _ ⟨a,c,h1,h2⟩=>by subst h1;subst h2;exact h a c
theorem OD.appendO {by_:Nat} {z:List Value} {v u:Value} {xs ys:List α} (ho:Fires ops i n σ d (.call ⟨.builtin .append,#[x,y],#[t,t]⟩)) (hd:descOk ops [i] l=true) (ht:P.underlying t=some (.slice e)) (he:elemIs P e T.k by_ z) (hk:0<T.k) (hx:ev σ x=some v) (hy:ev σ y=some u) (hl:Sel η (OwnP T e u ys) θ) (hs:Sel θ (OwnP T e v xs) ζ) (hb:(xs.length+ys.length)*by_≤140737488355328) (h63:xs.length+ys.length≤9223372036854775807) (h:∀ a c,OD P fn n R ops k D g l ((d,.slice a (xs.length+ys.length) c)::σ) (OwnP T e (.slice a (xs.length+ys.length) c) (xs++ys)::ζ)):OD P fn n R ops k D g (i::l) σ η:=ODg.appendO (fl:=false) ho (by simpa [hdOk] using hd) ht he hk hx hy hl hs hb h63 h
theorem ODg.appendP {fl:Bool} {by_:Nat} {z:List Value} {v u:Value} {xs ys:List α} (ho:Fires ops i n σ d (.call ⟨.builtin .append,#[x,y],#[t,t]⟩)) (hd:hdOk fl ops i l=true) (hT:T.Pure) (ht:P.underlying t=some (.slice e)) (he:elemIs P e T.k by_ z) (hk:0<T.k) (hx:ev σ x=some v) (hy:ev σ y=some u)
  (hs:Sel η (OwnP T e v xs) ζ) (hu:Arr T g.h u ys) (hb:(xs.length+ys.length)*by_≤140737488355328) (h63:xs.length+ys.length≤9223372036854775807)
  (h:∀ a c,OD P fn n R ops k D g l ((d,.slice a (xs.length+ys.length) c)::σ) (OwnP T e (.slice a (xs.length+ys.length) c) (xs++ys)::ζ)):ODx P fn n R ops k D g fl (i::l) σ η :=
 ODg.loudE (K:=fun v' η' =>∃ a c,v' =.slice a (xs.length+ys.length) c∧η' =OwnP T e v' (xs++ys)::ζ) ho rfl hd (fun _=>(DoesE.appendP hT ht he hk hx hy hs.app hu hb h63).imp fun _ _ ⟨a,c,h1,h2⟩=>⟨_,⟨a,c,h1,rfl⟩,h2⟩)
  fun _ _ ⟨a,c,h1,h2⟩=>by subst h1;subst h2;exact h a c
theorem OD.appendP {by_:Nat} {z:List Value} {v u:Value} {xs ys:List α} (ho:Fires ops i n σ d (.call ⟨.builtin .append,#[x,y],#[t,t]⟩)) (hd:descOk ops [i] l=true) (hT:T.Pure) (ht:P.underlying t=some (.slice e)) (he:elemIs P e T.k by_ z) (hk:0<T.k) (hx:ev σ x=some v) (hy:ev σ y=some u) (hs:Sel η (OwnP T e v xs) ζ) (hu:Arr T g.h u ys) (hb:(xs.length+ys.length)*by_≤140737488355328) (h63:xs.length+ys.length≤9223372036854775807) (h:∀ a c,OD P fn n R ops k D g l ((d,.slice a (xs.length+ys.length) c)::σ) (OwnP T e (.slice a (xs.length+ys.length) c) (xs++ys)::ζ)):OD P fn n R ops k D g (i::l) σ η:=ODg.appendP (fl:=false) ho (by simpa [hdOk] using hd) hT ht he hk hx hy hs hu hb h63 h
theorem ODg.idxOwn {v:Value} {xs:List α} {j:Nat} {kd:IntKind} (ho:Fires ops i n σ d (.indexAddr t x y)) {fl:Bool} (hd:hdOk fl ops i l=true) (ht:P.underlying t=some (.slice e)) (he:(P.info? e).map (·.size)=some T.k) (hx:ev σ x=some v) {zi:Int} (hy:ev σ y=some (.int kd zi)) (hzi:zi=(j:Int))
  (hs:Sel η (OwnP T e v xs) ζ) (hj:j<xs.length) (h:∀ p,PtrIn v T.k j p→OD P fn n R ops k D g l ((d,.pointer (some p))::σ) η):ODx P fn n R ops k D g fl (i::l) σ η :=
 ODx.perm hs.perm (ODg.loudE (η:=OwnP T e v xs::ζ) (K:=fun u η' =>∃ p,u=.pointer (some p)∧PtrIn v T.k j p∧η' =OwnP T e v xs::ζ) ho rfl hd
  (fun _=>(DoesE.idxOwn ht he hx hy hzi Sel.here hj).imp fun _ _ ⟨p,a,b,c⟩=>⟨_,⟨p,a,b,rfl⟩,c⟩) fun _ _ ⟨p,a,b,c⟩=>by subst a;subst c;exact ODx.perm hs.perm.symm (h p b))
theorem OD.idxOwn {v:Value} {xs:List α} {j:Nat} {kd:IntKind} (ho:Fires ops i n σ d (.indexAddr t x y)) (hd:descOk ops [i] l=true) (ht:P.underlying t=some (.slice e)) (he:(P.info? e).map (·.size)=some T.k) (hx:ev σ x=some v) {zi:Int} (hy:ev σ y=some (.int kd zi)) (hzi:zi=(j:Int)) (hs:Sel η (OwnP T e v xs) ζ) (hj:j<xs.length) (h:∀ p,PtrIn v T.k j p→OD P fn n R ops k D g l ((d,.pointer (some p))::σ) η):OD P fn n R ops k D g (i::l) σ η:=ODg.idxOwn (fl:=false) ho (by simpa [hdOk] using hd) ht he hx hy hzi hs hj h
theorem ODg.storeOwn {v u:Value} {xs:List α} {j q:Nat} {p:Addr} {a:α} (ho:opAtU ops q=some (.store t x y)) {fl:Bool} (hd:hdOk fl ops q l=true) (hsz:(P.info? t).map (·.size)=some T.k) (hx:ev σ x=some (.pointer (some p))) (hp:PtrIn v T.k j p) (hy:ev σ y=some u)
  (hs:Sel η (OwnP T e v xs) ζ) (hj:j<xs.length) (hu:T.rel Fr.emp u.cells.toList a) (h:OD P fn n R ops k D g l σ (OwnP T e v (xs.set j a)::ζ)):ODx P fn n R ops k D g fl (q::l) σ η :=
 ODx.perm hs.perm (ODg.loudU (η:=OwnP T e v xs::ζ) (η' :=OwnP T e v (xs.set j a)::ζ) ho rfl hd (fun _=>.storeOwn hsz hx hp hy Sel.here hj hu) h)
theorem OD.storeOwn {v u:Value} {xs:List α} {j q:Nat} {p:Addr} {a:α} (ho:opAtU ops q=some (.store t x y)) (hd:descOk ops [q] l=true) (hsz:(P.info? t).map (·.size)=some T.k) (hx:ev σ x=some (.pointer (some p))) (hp:PtrIn v T.k j p) (hy:ev σ y=some u) (hs:Sel η (OwnP T e v xs) ζ) (hj:j<xs.length) (hu:T.rel Fr.emp u.cells.toList a) (h:OD P fn n R ops k D g l σ (OwnP T e v (xs.set j a)::ζ)):OD P fn n R ops k D g (q::l) σ η:=ODg.storeOwn (fl:=false) ho (by simpa [hdOk] using hd) hsz hx hp hy hs hj hu h
theorem OD.slot {v v' :Value} (q:Nat) (hl:look σ q=some v) (h0:v=v') (h:OD P fn n R ops k D g L ((q,v')::σ) η):OD P fn n R ops k D g L σ η:=OD.weaken h (Sub.consE hl h0 Sub.refl)
end
theorem u8_inj {a b:UInt8} (h:(a.toNat:Int)=b.toNat):a=b:=UInt8.toNat_inj.mp (by omega)
end Go.Sp
end
end
end
section
/- Texts of this proof, one behind the other. -/
section
/- Texts of this proof. -/
namespace Go.Sp
theorem Holds.putObj {w:World} {g:Gr} {η:List SProp} {b:Nat} {o:Obj} (o' :Obj) (h:Holds w g (blk b o::η)):Holds (w.putObj b o') g (blk b o' ::η):=by
 have hb:=h.block;have hlt:=(Array.getElem?_eq_some_iff.1 hb).1;exact h.setBlock (World.putObj_heap_same hlt) (fun i hi=>World.putObj_heap_other hi) rfl rfl rfl
def yieldV (l:Nat):Value:=.func (.yield l) #[] #[]
def YCon (P:Program) (l:Nat) (args:Array Value) (r:Fr) (η:List SProp) (Post:Ending→List SProp→Prop):Prop :=
 ∀ g:Gr,r.sub g.h→∀ w,Holds w g η→∃ f tmps assign body,(Instr.yield l args).run P w=.ok (.round l f tmps assign body) w ∧
  RoundIn Fence.wide 0 P l f tmps assign body w fun e w' =>∃ η',Post e η' ∧Holds w' g η'
section ycon
variable {P:Program} {l:Nat} {args:Array Value} {r:Fr} {η:List SProp} {Post:Ending→List SProp→Prop}
theorem YCon.sub {r' :Fr} (h:YCon P l args r η Post) (hs:r.sub r'):YCon P l args r' η Post:=fun g hr w hw=>h g (Fr.sub_trans hs hr) w hw
theorem YCon.frame {ζ:List SProp} (h:YCon P l args r η Post):YCon P l args r (η++ζ) fun e η' =>∃ η₁,Post e η₁∧η' =η₁++ζ :=
 fun g hr w hw=>by
  obtain ⟨k,hk,hd,hw'⟩:=hw.freezeAll;obtain ⟨f,t,a,b,h1,h2⟩:=h (g.add k) (Fr.sub_trans hr (Fr.sub_add_left _ _)) w hw';exact ⟨f,t,a,b,h1,h2.mono fun _ _ ⟨η',x,y⟩=>⟨η' ++ζ,⟨η',x,rfl⟩,y.thawAll hk hd⟩⟩
theorem YCon.perm {η' :List SProp} (p:η'.Perm η) (h:YCon P l args r η Post):YCon P l args r η' Post:=fun g hr w hw=>h g hr w (hw.perm p)
end ycon
theorem run_callYield {P:Program} {ρ:Operand→Value} {o:Oper} {x:Operand} {xs:Array Operand} {ts:Array TypeId} {l:Nat} (ho:o.op=.call ⟨.value x,xs,ts⟩) (hx:ρ x=yieldV l) (w:World) :
  (execOp ρ o).run P w=(Instr.yield l (xs.map ρ)).run P w:=by
 have:(#[]:Array Value)++xs.map ρ=xs.map ρ:=by simp
 simp [execOp,ho,resolve,hx,Deferred.ofValue,invoke,yieldV]
section
variable {ro:Option Nat} {P:Program} {fn:Func} {n:Nat} {R:Ending→World→Prop} {k:List Item} {σ:List (Nat × Value)} {D:List Deferred} {g:Gr} {η ζ θ:List SProp}
 {ops:Array Oper} {i d l:Nat} {ls:List Nat} {f:FuncId} {x y:Operand} {xs:Array Operand} {ts:Array TypeId} {vals:List Value} {K:Value→List SProp→Prop}
theorem O.yield (ho:Fires ops i n σ d (.call ⟨.value x,xs,ts⟩)) (hx:ev σ x=some (yieldV l)) (hv:evs σ xs.toList=some vals) {args:Array Value} (hargs:vals.toArray=args) (con:YCon P l args g.h η (Ret K))
  (h:∀ v η',K v η' →O ro P fn n R ops ls k ((d,v)::σ) D g (η' ++ζ)):O ro P fn n R ops (i::ls) k σ D g (η++ζ):=by
 intro a w hf hd hw
 obtain ⟨o,hi,hdst,hop,hg,hb⟩:=ho.spec;have hm:xs.map a.eval=vals.toArray:=by rw [← evs_spec hf.knows hv,← Array.toList_map]
 obtain ⟨f,tm,as,bd,h1,h2⟩:=(con.frame (ζ:=ζ)) g (Fr.sub_refl _) w hw;have hrun:(execOp a.eval o).run P w=.ok (.round l f tm as bd) w:=by
  rw [run_callYield hop (hf.knows x _ hx) w,hm,hargs];exact h1
 refine O.fire hi (hg a hf) (by rw [hop];intro c hc;cases hc) hrun ?_;rw [Oper.uponIn_round];refine ⟨fun h=>(by cases h),RoundIn.mono h2 fun e w' hh=>?_⟩;obtain ⟨η',⟨η₁,hp,rfl⟩,hw'⟩:=hh
 cases e with
 |returned v =>
  show wpOpsIn (Wd ro) 0 P ops _ ls (a.put o.dst v) w'
  rw [hdst];exact h v η₁ hp _ _ (hf.put hb) hd hw'
 |panicked _=>exact hp.elim
 |outgrown=>exact hp.elim
theorem Sat.pack {ws:List SProp} {A:SProp} {ζ:List SProp} (hA:∀ m,Sat ws m→A m) {m:Fr} (h:Sat (ws++ζ) m):Sat (A::ζ) m:=by
 obtain ⟨h1,h2,d,s1,s2,x,y⟩:=Sat.split h;exact ⟨h1,h2,d,s1,s2,hA _ x,y⟩
theorem Holds.pack {w:World} {ws:List SProp} {A:SProp} (hA:∀ m,Sat ws m→A m) (h:Holds w g (ws++ζ)):Holds w g (A::ζ):=h.imp fun _=>Sat.pack hA
theorem YCon.imp {args:Array Value} {r:Fr} {Post:Ending→List SProp→Prop} (hs:∀ m,Sat η m→Sat ζ m) (h:YCon P l args r ζ Post):YCon P l args r η Post:=fun g hr w hw=>h g hr w (hw.imp hs)
theorem YCon.exi {args:Array Value} {r:Fr} {Post:Ending→List SProp→Prop} {α:Type} {A:α→SProp} (h:∀ x,YCon P l args r (A x::η) Post):YCon P l args r ((fun m=>∃ x,A x m)::η) Post:=fun g hr w hw=>by
 obtain ⟨p,q,rr,k,d,s1,s2,k1,k2,kd,t1,t2,⟨x,hx⟩,y⟩:=hw;exact h x g hr w ⟨p,q,rr,k,d,s1,s2,k1,k2,kd,t1,t2,hx,y⟩
theorem O.yieldSs (ho:Fires ops i n σ d (.call ⟨.value x,xs,ts⟩)) (hx:ev σ x=some (yieldV l)) (hv:evs σ xs.toList=some vals) {args:Array Value} (hargs:vals.toArray=args) {bs:List SProp} (hb:Sels η bs ζ) (con:YCon P l args g.h bs (Ret K))
  (h:∀ v η',K v η' →O ro P fn n R ops ls k ((d,v)::σ) D g (η' ++ζ)):O ro P fn n R ops (i::ls) k σ D g η :=
 fun a w hf hd hw=>O.yield ho hx hv hargs con h a w hf hd (hw.perm hb.perm)
theorem S.beginRound {L:Loop} (hs:Sel η (blk l (.loop L)) ζ) (hr:L.state=.ready) (h:S (some l) P fn n R k σ D g (blk l (.loop { L with state:=.busy })::ζ)):S (some l) P fn n R (.beginRound::k) σ D g η:=by
 intro a w hf hd hw b cs hb hfn
 have hw1:=hw.sel hs;obtain ⟨e,a',w',q,r⟩:=h a _ hf hd (hw1.putObj (.loop { L with state:=.busy })) b cs hb hfn;exact ⟨e,a',w',q,.of_steps (.one (fenced_wide P _) (stepR_beginRound hb (run_beginRound hw1.block hr))) r⟩
theorem S.roundEnd {L:Loop} (hs:Sel η (blk l (.loop L)) ζ) (h:∀ w,Holds w g (blk l (.loop { L with state:=.ready,pending:=none })::ζ)→R (.returned (.bool true)) w):S (some l) P fn n R [] σ D g η:=by
 intro a w hf hd hw
 have hw1:=hw.sel hs;exact .nil ⟨_,_,run_endRound none hw1.block,h _ (hw1.putObj _)⟩
def under:List Nat→List Value→List (Nat × Value)→List (Nat × Value)
 |p::ps,v::vs,σ=>under ps vs ((p,v)::σ)
 |_,_,σ=>σ
theorem fits_params:∀ (ps:List Nat) (vs:List Value) (tm:Array Value) (σ:List (Nat × Value)),(∀ p∈ps,Nat.blt p n=true)→Fits { tmps:=tm,defers:=[] } n σ →
  Fits { tmps:=(ps.zip vs).foldl (fun tmps (x:Nat × Value)=>tmps.setIfInBounds x.1 x.2) tm,defers:=[] } n (under ps vs σ)
 |[],_,_,_,_,h=>h
 |_::_,[],_,_,_,h=>h
 |p::ps,v::vs,tm,σ,hb,h=>by
  have:=h.put (v:=v) (hb p (List.mem_cons_self ..));exact fits_params ps vs _ _ (fun q hq=>hb q (List.mem_cons_of_mem _ hq)) this
theorem YCon.of {L:Loop} {args:Array Value} {r:Fr} {η:List SProp} {Post:Ending→List SProp→Prop} (vs:List Value) (ps:List Nat) (ha:args=vs.toArray) (hps:L.params=ps.toArray) (hln:vs.length=ps.length)
  (hb:ps.all (fun p=>Nat.blt p n)=true) (hfn:∃ f,P.funcs[L.fn]?=some f) (hfit:Fits { tmps:=L.tmps,defers:=[] } n σ)
  (h:∀ g:Gr,r.sub g.h→∀ R:Ending→World→Prop,(∀ e η' w',Post e η' →Holds w' g η' →R e w')→S (some l) P fn n R [.code L.assign,.beginRound,.code L.body] (under ps vs σ) [] g (blk l (.loop L)::η)) :
  YCon P l args r (blk l (.loop L)::η) Post:=by
 intro g hr w hw
 subst ha;refine ⟨_,_,_,_,run_yield hw.block (by simp [hps,hln]),round_of_runs (fn:=fn) hfn ?_⟩;refine h g hr _ (fun e η' w' hp hh=>⟨η',hp,hh⟩) _ w ?_ rfl hw;have:=fits_params ps vs L.tmps σ (fun p hp=>List.all_eq_true.1 hb p hp) hfit;have e:L.params.zip vs.toArray=(ps.zip vs).toArray:=by rw [hps];simp
 rw [e,List.foldl_toArray];exact this
def loopRec (fid:FuncId) (tm:Array Value) (ps:Array Tmp) (assign body:Code) (D0:Nat):Loop:={ state:=.ready,pending:=none,fn:=fid,tmps:=tm,params:=ps,assign,body,defers:=D0 }
theorem S.rangeFunc {first cap:Array Value} {ps:Array Tmp} {assign body:Code} {J:Option Code→List SProp→Prop} (hx:ev σ x=some (.func (.func f) first cap)) (hc:callable P f=true)
  (con:∀ (l D0 fid:Nat) (tm:Array Value),(∃ fn',P.funcs[fid]?=some fn')→Fits { tmps:=tm,defers:=[] } n σ →
   Con P f (first++#[yieldV l]++cap) g.h (blk l (.loop (loopRec fid tm ps assign body D0))::η) (Ret fun _ η' =>∃ L ζ,L.state≠.busy∧J L.pending ζ∧η' =blk l (.loop L)::ζ))
  (h:∀ D0 jump ζ,J jump ζ→S none P fn n R ((jump.map Item.code).toList++k) σ (⟨.collected D0,#[]⟩::D) g (blk D0 (.deferred (some []))::ζ)) :
  S none P fn n R (.code (.rangeFunc x ps assign body)::k) σ D g η:=by
 intro a w hf hd hw b cs hb hfn
 have he:=run_enterLoop_outer (P:=P) (w:=w) b.fn a.tmps ps assign body;rw [← hb] at he;have hres:(resolve a.eval (rangeCall x (w.heap.size+1)) 0).run P ((w.alloc (.deferred (some []))).alloc (.loop (loopRec b.fn a.tmps ps assign body w.heap.size))) =
   .ok ⟨.fn (.func f) cap,first++#[yieldV (w.heap.size+1)]⟩ ((w.alloc (.deferred (some []))).alloc (.loop (loopRec b.fn a.tmps ps assign body w.heap.size))):=by
  have hce:∀ v,a.eval (.const v)=v:=fun _=>rfl
  simp [rangeCall,resolve,hf.eval hx,Deferred.ofValue,yieldV,hce]
 have hinv:(invoke (Target.fn (.func f) cap) (first++#[yieldV (w.heap.size+1)])).run P ((w.alloc (.deferred (some []))).alloc (.loop (loopRec b.fn a.tmps ps assign body w.heap.size))) =
   .ok (.enter f (first++#[yieldV (w.heap.size+1)]++cap)) ((w.alloc (.deferred (some []))).alloc (.loop (loopRec b.fn a.tmps ps assign body w.heap.size))):=by
  simp only [invoke];exact run_callFunc hc _ _
 have henter:=stepR_rangeFunc (P:=P) (b:=b) (a:=a) (k:=k) (cs:=cs) (w:=w) he hres hinv;have hw1:=(hw.alloc (.deferred (some []))).alloc (.loop (loopRec b.fn a.tmps ps assign body w.heap.size));have hsz:(w.alloc (.deferred (some []))).heap.size=w.heap.size+1:=by simp
 rw [hsz] at hw1;have hc1:=(con (w.heap.size+1) w.heap.size b.fn a.tmps hfn ⟨hf.1,hf.2⟩).frame (ζ:=[blk w.heap.size (.deferred (some []))]) g (Fr.sub_refl _) _
  (hw1.perm (List.Perm.cons _ (List.perm_append_comm (l₁:=[_]) (l₂:=η))))
 obtain ⟨e,w₃,fr,hR,hsteps,hfn',hleave⟩:=hc1 (b.atR { a with defers:=[⟨.collected w.heap.size,#[]⟩]++a.defers } (.inRangeFunc (w.heap.size+1)::k)::cs);obtain ⟨η',⟨η₁,hp,rfl⟩,hw3⟩:=hR
 cases e with
 |panicked _=>exact hp.elim
 |outgrown=>exact hp.elim
 |returned v =>
  obtain ⟨L,ζ,hbusy,hJ,rfl⟩:=hp;have hw4:=hw3.putObj (o:=.loop L) (.loop { L with state:=.exhausted });have hend:=run_endLoop (P:=P) hw3.block hbusy;have hw5:Holds (w₃.putObj (w.heap.size+1) (.loop { L with state:=.exhausted })) g (blk w.heap.size (.deferred (some []))::ζ):=(Holds.drop hw4).perm List.perm_append_comm;have sback:StepsIn (Machine.fenced P Fence.wide) P (lone (b.atR a (.code (.rangeFunc x ps assign body)::k)) cs w)
    (lone (b.atR { a with defers:=[⟨.collected w.heap.size,#[]⟩]++a.defers } ((L.pending.map Item.code).toList++k)) cs (w₃.putObj (w.heap.size+1) (.loop { L with state:=.exhausted }))):=by
   refine .head (fenced_wide P _) henter (StepsIn.trans (stepsIn_wide.2 hsteps) (.head (fenced_wide P _) ?_ (.one (fenced_wide P _) (stepR_endRangeFunc hend))));rw [← finish_atR_inRangeFunc (w.heap.size+1) v];exact step_leave_returned hleave
  obtain ⟨e,a',w',q,r⟩:=h w.heap.size L.pending ζ hJ { a with defers:=[⟨.collected w.heap.size,#[]⟩]++a.defers } _ ⟨hf.1,hf.2⟩ (by simp [hd]) hw5 b cs hb hfn;exact ⟨e,a',w',q,.of_steps sback r⟩
inductive Marks:List Deferred→List SProp→List SProp→Prop
 |nil {η:List SProp}:Marks [] η η
 |cons {D0:Nat} {D:List Deferred} {η ζ θ:List SProp} (hs:Sel η (blk D0 (.deferred (some []))) θ) (h:Marks D θ ζ):Marks (⟨.collected D0,#[]⟩::D) η ζ
theorem Marks.lv {tmps:Array Value} (m:Marks D η ζ):∀ {w:World},Holds w g η→(∀ w',Holds w' g ζ→Leaves P fn tmps R [] .returning w')→Lv P fn tmps R D .returning w:=by
 induction m with
 |nil=>exact fun hw h=>h _ hw
 |cons hs m ih =>
  intro w hw h
  have hw1:=hw.sel hs;exact ⟨by simp,.inl ⟨_,_,rfl,run_takeDeferred hw1.block,ih (hw1.putObj _).drop h⟩⟩
def resRun (tmps:Array Value):ResultVar→Sem Value
 |.tmp t=>pure (tmps.getD t undef)
 |.cell a t=>do loadVar t (← asAddr (tmps.getD a undef))
def RV (P:Program) (n:Nat) (σ:List (Nat × Value)) (g:Gr) (ζ:List SProp) (r:ResultVar) (v:Value):Prop:=∀ a w,Fits a n σ→Holds w g ζ→(resRun a.tmps r).run P w=.ok v w
theorem RV.tmp {t:Nat} {v:Value} (hl:look σ t=some v):RV P n σ g ζ (.tmp t) v:=fun a w hf hw=>by
 have:=hf.2 t v hl
 simp [resRun,Array.getD_eq_getD_getElem?,this]
theorem results_eq (tmps:Array Value):results fn tmps=(do
  let vs ← fn.results.mapM (resRun tmps)
  pure (if h:vs.size=1 then vs[0] else .tuple vs)):=rfl
theorem results1 {a:Act} {w:World} {r:ResultVar} {v:Value} (hr:fn.results=#[r]) (h:RV P n σ g ζ r v) (hf:Fits a n σ) (hw:Holds w g ζ):(results fn a.tmps).run P w=.ok v w:=by
 rw [results_eq];simp [hr,Sem.run_bind,h a w hf hw,Result.andThen]
def Off (todo:List Item):Prop:=todo=[]∨∃ k,todo=.code .ret::k
theorem S.off {todo:List Item} (ht:Off todo) (h:∀ a w,Fits a n σ→a.defers=D→Holds w g η→Lv P fn a.tmps R D .returning w):S none P fn n R todo σ D g η:=by
 rcases ht with rfl|⟨k,rfl⟩
 ·intro a w hf hd hw;refine .nil ?_;show Lv P fn a.tmps R a.defers .returning w;rw [hd];exact h a w hf hd hw
 ·intro a w hf hd hw;refine .ret ?_;show Lv P fn a.tmps R a.defers .returning w;rw [hd];exact h a w hf hd hw
theorem S.retM1 {todo:List Item} {r1:ResultVar} {v1:Value} (ht:Off todo) (m:Marks D η ζ) (hr:fn.results=#[r1]) (h1:RV P n σ g ζ r1 v1) (h:∀ w,Holds w g ζ→R (.returned v1) w):S none P fn n R todo σ D g η :=
 S.off ht fun _ _ hf _ hw=>m.lv hw fun w' hw' =>⟨_,results1 hr h1 hf hw',h w' hw'⟩
theorem S.objIs {todo:List Item} {b:Nat} {T:TypeId} {cs cs' :List Value} (s:Sel η (obj b T cs) ζ) (e:cs=cs') (h:S ro P fn n R todo σ D g (obj b T cs' ::ζ)):S ro P fn n R todo σ D g η:=S.sel s (e ▸ h)
end
end Go.Sp
end
section
/- Texts of this proof. -/
namespace Go.Sp
open Go.ChangeShapes
theorem fr_cell (w:World) (a:Addr):Fr.cell w.fr a=w.cell? a:=by
 unfold Fr.cell World.cell? World.fr
 cases w.heap[a.block]? with
 |none=>rfl
 |some o=>cases o<;>rfl
def Rp.unit:Rp Unit:={ k:=0,rel:=fun _ cs _=>cs=[],len:=fun h=>by rw [h];rfl,mono:=fun _ h=>h,one:=fun h c hc=>by subst h;simp at hc }
def Rp.prod {α β:Type} (T:Rp α) (U:Rp β):Rp (α × β) :=
 {k:=T.k+U.k,rel:=fun h cs x=>∃ c1 c2,cs=c1++c2∧T.rel h c1 x.1∧U.rel h c2 x.2,len:=fun ⟨c1,c2,h,a,b⟩=>by rw [h,List.length_append,T.len a,U.len b]
  mono:=fun s ⟨c1,c2,h,a,b⟩=>⟨c1,c2,h,T.mono s a,U.mono s b⟩
  one:=fun ⟨c1,c2,h,a,b⟩ c hc=>by
   subst h
   rcases List.mem_append.1 hc with x|x
   ·exact T.one a c x
   ·exact U.one b c x }
def light {H:Type} (P:Program) (t:TypeId) (d:DataW H):Prop:=∀ n∈d.weights P t,n≤reachBytes
theorem light_all {H:Type} {P:Program} {e:TypeId}:∀ {ds:List (DataW H)} (_:∀ n∈DataW.weightsAll P e ds,n≤reachBytes) (i:Nat) (hi:i<ds.length),light P e ds[i]
 |d::ds,h,0,_=>fun n hn=>h n (by simp [DataW.weightsAll];exact .inl hn)
 |d::ds,h,i+1,hi=>light_all (ds:=ds) (fun n hn=>h n (by simp [DataW.weightsAll];exact .inr hn)) i (by simpa using hi)
theorem light_each {H:Type} {P:Program}:∀ {ts:List TypeId} {ds:List (DataW H)} (_:∀ n∈DataW.weightsEach P ts ds,n≤reachBytes) (i:Nat) (ht:i<ts.length) (hi:i<ds.length),light P ts[i] ds[i]
 |t::ts,d::ds,h,0,_,_=>fun n hn=>h n (by simp [DataW.weightsEach];exact .inl hn)
 |t::ts,d::ds,h,i+1,ht,hi=>light_each (ts:=ts) (ds:=ds) (fun n hn=>h n (by simp [DataW.weightsEach];exact .inr hn)) i (by simpa using ht) (by simpa using hi)
def Opens (P:Program) (t:TypeId) {α:Type} (T:Rp α) (Q:α→Prop):Prop :=
 ∀ (H:Type) (enc:TypeId × Value→H) (w:World) (base:Nat) (spare:Nat→Bool) (held:Bool) (fuel:Nat) (cs:List Value) (x:DataW H × List MemPlace),
  DataW.trod enc P w base spare held fuel t cs=some x→light P t x.1→∃ a,T.rel w.fr cs a∧Q a
def Within {α:Type} (Q:α→Prop) (xs:List α):Prop:=xs.length≤140737488351232∧∀ x∈xs,Q x
def Anyv {α:Type} (_:α):Prop:=True
theorem Opens.u8 {P:Program} {t:TypeId} (ht:P.underlying t=some (.int .u8)):Opens P t Rp.u8 Anyv:=fun _ _ _ _ _ _ _ _ _ h _=>by
 obtain ⟨n,rfl,_,hw⟩:=DataW.trod_int ht h;have:0≤n∧n≤255:=by simpa [Lit.wf,IntKind.min,IntKind.max,IntKind.wrap,IntKind.bits,IntKind.signed] using hw
 refine ⟨UInt8.ofNat n.toNat,?_,trivial⟩
 show _=_
 have e:((UInt8.ofNat n.toNat).toNat:Int)=n:=by
  have:(UInt8.ofNat n.toNat).toNat=n.toNat % 256:=by simp
  omega
 rw [byteV,e]
theorem Opens.i64 {P:Program} {t:TypeId} (ht:P.underlying t=some (.int .i64)):Opens P t Rp.i64 InI64:=fun _ _ _ _ _ _ _ _ _ h _=>by
 obtain ⟨n,rfl,_,hw⟩:=DataW.trod_int ht h;have:InI64 n:=by unfold InI64;simpa [Lit.wf,IntKind.min,IntKind.max,IntKind.wrap,IntKind.bits,IntKind.signed] using hw
 exact ⟨n,⟨rfl,this⟩,this⟩
theorem Opens.bool {P:Program} {t:TypeId} (ht:P.underlying t=some .bool):Opens P t Rp.bool Anyv:=fun _ _ _ _ _ _ _ _ _ h _=>by
 obtain ⟨n,rfl,_⟩:=DataW.trod_bool ht h;exact ⟨n,rfl,trivial⟩
theorem str_data (s:ByteArray):str s.data.toList=s:=by cases s;rfl
theorem Opens.str {P:Program} {t:TypeId} (ht:P.underlying t=some .string):Opens P t Rp.str (fun s=>s.length≤140737488351232):=fun _ _ _ _ _ _ _ _ _ h hl=>by
 obtain ⟨s,rfl,rfl,hs⟩:=DataW.trod_string ht h;exact ⟨s.data.toList,⟨by rw [str_data],by unfold maxLen at hs;rw [Array.length_toList];exact Nat.le_trans hs (by decide)⟩,hl _ (by simp [DataW.weights])⟩
theorem choose_list {α:Type} {p:Nat→α→Prop}:∀ {n:Nat} (_:∀ i,i<n→∃ x,p i x),∃ l:List α,l.length=n∧∀ i (hi:i<l.length),p i l[i]
 |0,_=>⟨[],rfl,fun i hi=>absurd hi (by simp)⟩
 |n+1,h=>by
  obtain ⟨l,h1,h2⟩:=choose_list (n:=n) (fun i hi=>h i (by omega));obtain ⟨x,hx⟩:=h n (by omega);refine ⟨l++[x],by simp [h1],fun i hi=>?_⟩
  by_cases hi' :i<l.length
  ·rw [List.getElem_append_left hi'];exact h2 i hi'
  ·have:i=n:=by simp at hi;omega
   subst this;rw [List.getElem_append_right (by omega)];simpa using hx
theorem All2.of_get {α β:Type} {R:β→α→Prop}:∀ {bs:List β} {as:List α},bs.length=as.length→(∀ i (hb:i<bs.length) (ha:i<as.length),R bs[i] as[i])→All2 R bs as
 |[],[],_,_=>trivial
 |_::_,[],h,_=>by simp at h
 |[],_::_,h,_=>by simp at h
 |b::bs,a::as,h,hr=>⟨hr 0 (by simp) (by simp),All2.of_get (by simpa using h) fun i hb ha=>hr (i+1) (by simp;omega) (by simp;omega)⟩
theorem flat_len_k {α:Type} {k:Nat}:∀ {css:List (List α)},(∀ c∈css,c.length=k)→css.flatten.length=css.length*k
 |[],_=>by simp
 |c::css,h=>by
  rw [List.flatten_cons,List.length_append,flat_len_k (fun d hd=>h d (by simp [hd])),h c (by simp)];simp [Nat.succ_mul];omega
theorem flat_get_k {α:Type} {k:Nat} (hk:0<k):∀ {css:List (List α)} (_:∀ c∈css,c.length=k) (j:Nat),css.flatten[j]?=(css[j / k]?).bind fun c=>c[j % k]?
 |[],_,j=>by simp
 |c::css,h,j=>by
  have hc:=h c (by simp)
  by_cases hj:j<k
  ·rw [List.flatten_cons,List.getElem?_append_left (by omega),Nat.div_eq_of_lt hj,Nat.mod_eq_of_lt hj];simp
  ·have hj' :k≤j:=by omega
   rw [List.flatten_cons,List.getElem?_append_right (by omega),hc,flat_get_k hk (fun d hd=>h d (by simp [hd]))];have e1:j / k=(j - k) / k+1:=by rw [Nat.div_eq_sub_div hk hj']
   have e2:j % k=(j - k) % k:=by rw [Nat.mod_eq_sub_mod hj']
   rw [e1,e2];simp
theorem Opens.slice {P:Program} {t e:TypeId} {α:Type} {T:Rp α} {Q:α→Prop} (ho:Opens P e T Q) (ht:P.underlying t=some (.slice e)) (hc:P.cellsOf e=T.k) (hy:0<P.bytesOf e) (hk:0<T.k):Opens P t (Rp.slice T) (Within Q):=fun H enc w base spare held fuel cs x h hlt=>by
 rcases DataW.trod_slice ht h with ⟨rfl,_⟩|⟨a,len,cap,elems,rest,n,_,rfl,rfl,hb,hl,hm,hlen,hel,_,_⟩
 ·exact ⟨[],⟨_,rfl,Arr.nil⟩,by simp,by simp⟩
 have hw:len*P.bytesOf e≤reachBytes∧∀ n∈DataW.weightsAll P e (elems.map (·.1)),n≤reachBytes:=by
  unfold light at hlt;simp only [DataW.weights,ht,List.length_map,List.mem_cons,List.mem_append] at hlt;exact ⟨Nat.le_trans (Nat.mul_le_mul_right _ (by omega)) (hlt _ (.inl rfl)),fun n hn=>hlt n (.inr (.inl hn))⟩
 have hlen2:len≤140737488351232:=by
  have:=Nat.le_trans (Nat.le_mul_of_pos_right len hy) hw.1;unfold reachBytes at this;omega
 have each:∀ i,i<len→∃ y:List Value × α,y.1.length=T.k∧(T.rel w.fr y.1 y.2∧Q y.2)∧∀ q,q<T.k→w.cell? ((a.add (i*T.k)).add q)=y.1[q]?:=by
  intro i hi
  have h1:=hel i hi;rw [List.getElem?_eq_getElem (by omega),hc,Option.bind_eq_some_iff] at h1;obtain ⟨ds,h2,h3⟩:=h1;obtain ⟨b,hb⟩:=ho _ enc w base spare held n ds _ h3 (by have h9:=light_all hw.2 i (by simp;omega);rw [List.getElem_map] at h9;exact h9);obtain ⟨_,h4,h5⟩:=World.cells?_some h2;exact ⟨(ds,b),h4,hb,h5⟩
 obtain ⟨l,h1,h2⟩:=choose_list each;have hQ:Within Q (l.map (·.2)):=by
  refine ⟨by simp;omega,fun y hy=>?_⟩;obtain ⟨z,hz,rfl⟩:=List.mem_map.1 hy;obtain ⟨i,hi,rfl⟩:=List.mem_iff_getElem.1 hz;exact (h2 i hi).2.1.2
 refine ⟨l.map (·.2),⟨_,rfl,l.map (·.1),?_,some a,cap,?_,?_,⟨?_,fun h=>by cases h⟩,?_,?_⟩,hQ⟩
 ·refine All2.of_get (by simp) fun i hb ha=>?_
  simp only [List.getElem_map];exact (h2 i (by simpa using hb)).2.1.1
 ·simp [h1]
 ·simp [h1];omega
 ·simpa [maxLen] using hm
 ·rw [flat_len_k (k:=T.k)]
  ·simp
  ·intro c hc
   obtain ⟨y,hy,rfl⟩:=List.mem_map.1 hc;obtain ⟨i,hi,rfl⟩:=List.mem_iff_getElem.1 hy;exact (h2 i hi).1
 ·intro j hj
  refine ⟨a,rfl,?_⟩;have hall:∀ c∈l.map (·.1),c.length=T.k:=by
   intro c hc
   obtain ⟨y,hy,rfl⟩:=List.mem_map.1 hc;obtain ⟨i,hi,rfl⟩:=List.mem_iff_getElem.1 hy;exact (h2 i hi).1
  rw [fr_cell,← List.getElem?_eq_getElem hj,flat_get_k hk hall];have hj2:j<l.length*T.k:=by rw [flat_len_k hall] at hj;simpa using hj
  have hi:j / T.k<l.length:=by rw [Nat.div_lt_iff_lt_mul hk];exact hj2
  have hq:j % T.k<T.k:=Nat.mod_lt _ hk;have:=(h2 _ hi).2.2 _ hq;rw [Addr.add_add,show j / T.k*T.k+j % T.k=j from by rw [Nat.mul_comm];exact Nat.div_add_mod j T.k] at this;rw [this]
  simp [List.getElem?_eq_getElem hi]
theorem Opens.arr {P:Program} {t:TypeId} {α:Type} {T:Rp α} {Q:List α→Prop} (ho:Opens P t (Rp.slice T) Q) {H:Type} {enc:TypeId × Value→H} {w:World} {base:Nat} {spare:Nat→Bool} {held:Bool} {fuel:Nat} {v:Value} {x:DataW H × List MemPlace}
  (h:DataW.trod enc P w base spare held fuel t [v]=some x) (hl:light P t x.1):∃ a,Arr T w.fr v a∧Q a:=by
 obtain ⟨a,⟨u,h1,h2⟩,hq⟩:=ho _ enc w base spare held fuel _ x h hl
 cases h1
 exact ⟨a,h2,hq⟩
def OpensF (P:Program) (fs:List Field) (off:Nat) {α:Type} (T:Rp α) (Q:α→Prop):Prop :=
 ∀ (H:Type) (enc:TypeId × Value→H) (w:World) (base:Nat) (spare:Nat→Bool) (held:Bool) (fuel:Nat) (cs:List Value),
  (∀ f∈fs,∃ x,DataW.trod enc P w base spare held fuel f.type ((cs.drop f.offset).take (P.cellsOf f.type))=some x∧light P f.type x.1)→cs.length=off+T.k→∃ a,T.rel w.fr (cs.drop off) a∧Q a
theorem OpensF.nil {P:Program} {off:Nat}:OpensF P [] off Rp.unit Anyv:=fun _ _ _ _ _ _ _ cs _ h=>⟨(),by show cs.drop off=[];rw [List.drop_eq_nil_of_le];simp [Rp.unit] at h;omega,trivial⟩
theorem OpensF.cons {P:Program} {f:Field} {fs:List Field} {off:Nat} {α β:Type} {T:Rp α} {U:Rp β} {Q:α→Prop} {R:β→Prop} (ho:f.offset=off) (hc:P.cellsOf f.type=T.k) (h1:Opens P f.type T Q) (h2:OpensF P fs (off+T.k) U R):OpensF P (f::fs) off (Rp.prod T U) (fun x=>Q x.1∧R x.2) :=
 fun H enc w base spare held fuel cs h hl=>by
  obtain ⟨x,hx,hx'⟩:=h f (by simp);rw [ho,hc] at hx;obtain ⟨a,ha,qa⟩:=h1 _ _ _ _ _ _ _ _ _ hx hx';obtain ⟨b,hb,qb⟩:=h2 _ enc w base spare held fuel cs (fun g hg=>h g (by simp [hg])) (by rw [hl];simp [Rp.prod];omega);exact ⟨(a,b),⟨_,_,(by rw [← List.drop_drop,List.take_append_drop]:cs.drop off=(cs.drop off).take T.k++cs.drop (off+T.k)),ha,hb⟩,qa,qb⟩
theorem Opens.struct {P:Program} {t:TypeId} {fs:List Field} {α:Type} {T:Rp α} {Q:α→Prop} (ho:OpensF P fs 0 T Q) (ht:P.underlying t=some (.struct fs.toArray)) (hc:P.cellsOf t=T.k):Opens P t T Q:=fun H enc w base spare held fuel cs x h hlt=>by
 obtain ⟨xs,n,_,rfl,hl,hn,hf⟩:=DataW.trod_struct ht h;unfold light at hlt;simp only [DataW.weights,ht] at hlt;have:=ho _ enc w base spare held n cs (fun f hf' =>by
  obtain ⟨i,hi,rfl⟩:=List.mem_iff_getElem.1 hf';have:=hf i fs[i] (by simp [hi]);have hi2:i<xs.length:=by simp at hn;omega
  rw [List.getElem?_eq_getElem hi2] at this;refine ⟨_,by simpa using this,?_⟩;have:=light_each hlt i (by simpa using hi) (by simpa using hi2)
  simpa using this) (by rw [hl,hc];simp)
 simpa using this
end Go.Sp
end
end
