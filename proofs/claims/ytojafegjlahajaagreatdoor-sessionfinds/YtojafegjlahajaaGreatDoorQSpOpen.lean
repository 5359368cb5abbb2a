/- Texts of this proof, one behind the other. -/
import Derived.Test.YtojafegjlahajaaGreatDoorQSpDefer
import Derived.Lib.ConvBytes
import Derived.RangeFuncRecord
import Derived.ChangeArms
import Derived.DataReads
import GoSem.ClaimJoined
set_option linter.unusedSectionVars false
section
/- Texts of this proof, one behind the other. -/
section
/- Texts of this proof. -/
namespace Go.Sp
def bX {β α:Type} (A:β→α→az):List β→List α→az
 |[],[]=>fun _=>True
 |b::bs,a::as=>fun h=>Sat [A b a,bX A bs as] h
 |_,_=>fun _=>False
theorem Sat.two {A B:az} {m:Fr}:Sat [A,B] m↔∃ h1 h2:Fr,h1.cU h2∧h1.sub m∧h2.sub m∧A h1∧(∃ h3:Fr,h3.sub h2∧B h3):=by
 constructor
 ·rintro ⟨h1,h2,d,s1,s2,x,k1,k2,_,t1,_,y,_⟩
  exact ⟨h1,h2,d,s1,s2,x,k1,t1,y⟩
 ·rintro ⟨h1,h2,d,s1,s2,x,h3,t,y⟩
  exact ⟨h1,h2,d,s1,s2,x,h3,Fr.emp,Fr.e5 (Fr.ea _),t,Fr.c6 _,y,trivial⟩
theorem bX.snoc {β α:Type} {A:β→α→az} {b:β} {a:α}:∀ {bs:List β} {as:List α} {m:Fr},Sat [bX A bs as,A b a] m→∃ h:Fr,h.sub m∧bX A (bs++[b]) (as++[a]) h
 |[],[],m,h=>⟨m,Fr.bY _,by
  have h2:Sat [A b a] m:=h.tail';exact Sat.append (U:=[A b a]) (ζ:=[bX A [] []]) (Fr.e5 (Fr.ea _)) h2 ⟨Fr.emp,Fr.emp,Fr.ea _,Fr.c6 _,Fr.c6 _,trivial,trivial⟩ |>Sat.mono (Fr.ia (Fr.bY _) (Fr.c6 _))⟩
 |[],_::_,_,h=>by obtain ⟨_,_,_,_,_,x,_⟩:=h;exact x.elim
 |_::_,[],_,h=>by obtain ⟨_,_,_,_,_,x,_⟩:=h;exact x.elim
 |b' ::bs,a' ::as,m,h=>by
  obtain ⟨h1,h2,d,s1,s2,x,y⟩:=h;have x' :Sat [A b' a',bX A bs as] h1:=x;obtain ⟨k1,k2,kd,t1,t2,p,q⟩:=x';have hq:Sat [bX A bs as,A b a] (k2.add h2):=Sat.append (U:=[bX A bs as]) (ζ:=[A b a]) (Fr.fK d t2 (Fr.bY _)) q y;obtain ⟨h3,u,z⟩:=bX.snoc hq;refine ⟨m,Fr.bY _,?_⟩
  show Sat [A b' a',bX A (bs++[b]) (as++[a])] m
  refine ⟨k1,k2.add h2,Fr.rK kd (Fr.fK d t1 (Fr.bY _)),Fr.aI t1 s1,Fr.ia (Fr.aI t2 s1) s2,p,h3,Fr.emp,Fr.e5 (Fr.ea _),u,Fr.c6 _,z,trivial⟩
theorem bX.sZ {β α:Type} {A:β→α→az} {R:β→α→Prop} {k:Fr} (hA:∀ b a m,A b a m→m.sub k→R b a):∀ {bs:List β} {as:List α} {m:Fr},bX A bs as m→m.sub k→b5 R bs as
 |[],[],_,_,_=>trivial
 |[],_::_,_,h,_=>h.elim
 |_::_,[],_,h,_=>h.elim
 |b::bs,a::as,m,h,s=>by
  have h' :Sat [A b a,bX A bs as] m:=h;obtain ⟨k1,k2,_,t1,t2,p,bk,_,_,u,_,q,_⟩:=h';exact ⟨hA b a k1 p (Fr.aI t1 s),bX.sZ hA q (Fr.aI u (Fr.aI t2 s))⟩
abbrev sX {α:Type} (T:ag α) (e:TypeId) (vs:List Value) (xss:List (List α)):az:=bX (av T e) vs xss
section
variable {ro:Option Nat} {P:Program} {fn:Func} {n:Nat} {R:Ending→World→Prop} {k:List Item} {σ:List (Nat × Value)} {D:List Deferred} {g:bn} {U ζ aO:List az} {ops:Array Oper} {L:List Nat}
theorem Sat.each {β α:Type} {A:β→α→az} {b:β} {a:α} {bs:List β} {as:List α} {m:Fr} (h:Sat (bX A bs as::A b a::aO) m):Sat (bX A (bs++[b]) (as++[a])::aO) m:=by
 obtain ⟨h1,h2,d,s1,s2,x,k1,k2,kd,t1,t2,y,z⟩:=h;obtain ⟨h3,u,w⟩:=bX.snoc (Sat.append (U:=[bX A bs as]) (ζ:=[A b a]) (Fr.fK d (Fr.bY _) t1) ⟨h1,Fr.emp,Fr.e5 (Fr.ea _),Fr.bY _,Fr.c6 _,x,trivial⟩ ⟨k1,Fr.emp,Fr.e5 (Fr.ea _),Fr.bY _,Fr.c6 _,y,trivial⟩);exact ⟨h3,k2,Fr.fK (Fr.p4 (Fr.fK d (Fr.bY _) t2) kd) u (Fr.bY _),Fr.aI u (Fr.ia s1 (Fr.aI t1 s2)),Fr.aI t2 s2,w,z⟩
theorem O.each {β α:Type} {A:β→α→az} {b:β} {a:α} {bs:List β} {as:List α} (s1:bg U (bX A bs as) ζ) (s2:bg ζ (A b a) aO) (h:O ro P fn n R ops L k σ D g (bX A (bs++[b]) (as++[a])::aO)):O ro P fn n R ops L k σ D g U :=
 O.cB s1 (O.imp (U:=bX A bs as::ζ) (fun _ x=>Sat.each (Sat.fk (fun _ y=>y) (fun _ y=>Sat.perm s2.perm y) x)) h)
theorem S.imp' {todo:List Item} (hs:∀ m,Sat U m→Sat ζ m) (h:S ro P fn n R todo σ D g ζ):S ro P fn n R todo σ D g U:=fun a w hf hd hw=>h a w hf hd (hw.imp hs)
theorem S.each {todo:List Item} {β α:Type} {A:β→α→az} {b:β} {a:α} {bs:List β} {as:List α} (s1:bg U (bX A bs as) ζ) (s2:bg ζ (A b a) aO) (h:S ro P fn n R todo σ D g (bX A (bs++[b]) (as++[a])::aO)):S ro P fn n R todo σ D g U :=
 S.cB s1 (S.imp' (U:=bX A bs as::ζ) (fun _ x=>Sat.each (Sat.fk (fun _ y=>y) (fun _ y=>Sat.perm s2.perm y) x)) h)
theorem Sat.rows {α:Type} {T:ag α} {e e' :TypeId} {v:Value} {vs:List Value} {xss:List (List α)} {m:Fr} (h:Sat [av ag.val e v vs,sX T e' vs xss] m):aj (ag.slice T) m v xss:=by
 obtain ⟨h1,h2,_,s1,s2,x,h3,_,_,t,_,y,_⟩:=h;exact (x.arr.mono s1).rows (bX.sZ (fun b a m' z s=>z.arr.mono s) y (Fr.aI t s2))
theorem WG {α:Type} {T:ag α} {e e' :TypeId} {v:Value} {vs:List Value} {xss:List (List α)} (s1:bg U (av ag.val e v vs) ζ) (s2:bg ζ (sX T e' vs xss) aO) (m:Fr) (h:Sat U m):Sat ((fun m=>aj (ag.slice T) m v xss)::aO) m:=by
 obtain ⟨h1,h2,d,t1,t2,x,y⟩:=Sat.perm s1.perm h;obtain ⟨k1,k2,kd,u1,u2,p,q⟩:=Sat.perm s2.perm y;refine ⟨h1.add k1,k2,Fr.p4 (Fr.fK d (Fr.bY _) u2) kd,Fr.ia t1 (Fr.aI u1 t2),Fr.aI u2 t2,?_,q⟩;exact Sat.rows (Sat.append (U:=[av ag.val e v vs]) (ζ:=[sX T e' vs xss]) (Fr.fK d (Fr.bY _) u1) ⟨h1,Fr.emp,Fr.e5 (Fr.ea _),Fr.bY _,Fr.c6 _,x,trivial⟩ ⟨k1,Fr.emp,Fr.e5 (Fr.ea _),Fr.bY _,Fr.c6 _,p,trivial⟩)
theorem S.vX {aF b:Nat} {ty T:TypeId} {cs:List Value} (hr:fn.results=#[.cell aF ty]) (xQ:∀ w,(isAgg ty).run P w=.ok true w) (hsz:(P.info? ty).map (·.size)=some cs.length) (hl:look σ aF=some (.pointer (some ⟨b,0,none⟩))) (hs:bg U (obj b T cs) ζ)
  (h:∀ w,Holds w g (obj b T cs::ζ)→R (.returned (.agg cs.toArray)) w):S none P fn n R (.code .ret::k) σ [] g U:=by
 refine S.q_ fun a w hf hd hw=>?_;have hw' :=hw.cB hs;refine ⟨.agg cs.toArray,?_,h w hw'⟩;have hc0:=run_loadCells_list (P:=P) w ⟨b,0,none⟩ cs fun j v hj=>by
  rw [add_lit];exact hw'.uk (by simpa using hj)
 have hl' :=hf.2 aF _ hl
 simp [results,hr,Array.getD_eq_getD_getElem?,hl',asAddr,loadVar,xQ,run_sizeOf hsz,hc0]
theorem O.OE {α:Type} {T:ag α} {e e' :TypeId} {v:Value} {vs:List Value} {xss:List (List α)} (s1:bg U (av ag.val e v vs) ζ) (s2:bg ζ (sX T e' vs xss) aO) (h:∀ g' :bn,g.h.sub g'.h→(∀ w ζ,Holds w g' ζ→Holds w g ζ)→aj (ag.slice T) g'.h v xss→O ro P fn n R ops L k σ D g' aO):O ro P fn n R ops L k σ D g U :=
 O.imp (WG s1 s2) (O.OF bg.here h)
end
section
variable {ro:Option Nat} {P:Program} {σ:List (Nat × Value)} {g:bn} {U ζ:List az} {fn:Func} {n:Nat} {R:Ending→World→Prop} {k:List Item} {D:List Deferred} {ops:Array Oper} {i d:Nat} {l:List Nat}
 {t e:TypeId} {x y z:Operand} {v:Value} {ka kb:IntKind} {qu lM:Int} {a b:Nat} {α:Type} {T:ag α} {xs:List α} {r:Fr}
theorem ay.x2 {f:FuncId} {args:Array Value} {h:Fr} {bs:List az} {Post:Ending→List az→Prop} (con:∀ m:Fr,Sat bs m→h.cU m→ay P f args (h.add m) U Post) :
  ay P f args h (U++bs) Post:=fun g hg w hw=>by
 obtain ⟨m,hm,hd,hw'⟩:=Holds.zI (U:=U) (ζ:=bs) hw;have l5 :h.cU m:=Fr.fK hd hg (Fr.bY _);exact (con m hm l5 (g.add m) (Fr.ia (Fr.aI hg (Fr.dh _ _)) (Fr.dB hd)) w hw').mono fun e w' ⟨ax,x,y⟩=>⟨ax,x,y.iA hd⟩
theorem O.eO {f:FuncId} {xs:Array Operand} {ts:Array TypeId} {bH:List Value} {K' :Value→List az→Prop} {first cap:Array Value} (ho:bJ ops i n σ d (.call ⟨.value x,xs,ts⟩)) (hx:aA σ x=some (.func (.func f) first cap)) (hc:dG P f=true)
  (hv:dX σ xs.toList=some bH) {args:Array Value} (hargs:first++bH.toArray++cap=args) {bs:List az} (hb:jF U bs ζ) (con:ay P f args g.h bs (aL K'))
  (h:∀ v ax,K' v ax →O ro P fn n R ops l k ((d,v)::σ) D g (ax ++ζ)):O ro P fn n R ops (i::l) k σ D g U :=
 fun a w hf hd hw=>O.call (ζ:=ζ) ho hx hc hv hargs con h a w hf hd (hw.perm hb.perm)
theorem cO.eO {f:FuncId} {xs:Array Operand} {ts:Array TypeId} {bH:List Value} {K' :Value→List az→Prop} {first cap:Array Value} (ho:bJ ops i n σ d (.call ⟨.value x,xs,ts⟩)) {fl:Bool} (hd:ei fl ops i l=true) (hx:aA σ x=some (.func (.func f) first cap)) (hc:dG P f=true)
  (hv:dX σ xs.toList=some bH) {args:Array Value} (hargs:first++bH.toArray++cap=args) {bs:List az} (hb:jF U bs ζ) (con:ay P f args g.h bs (aL K'))
  (h:∀ v ax,K' v ax →af P fn n R ops k D g l ((d,v)::σ) (ax ++ζ)):aJ P fn n R ops k D g fl (i::l) σ U :=
 aJ.perm hb.perm (cO.call (ζ:=ζ) ho hd hx hc hv hargs con h)
theorem af.eO {f:FuncId} {xs:Array Operand} {ts:Array TypeId} {bH:List Value} {K' :Value→List az→Prop} {first cap:Array Value} (ho:bJ ops i n σ d (.call ⟨.value x,xs,ts⟩)) (hd:eH ops [i] l=true) (hx:aA σ x=some (.func (.func f) first cap)) (hc:dG P f=true) (hv:dX σ xs.toList=some bH) {args:Array Value} (hargs:first++bH.toArray++cap=args) {bs:List az} (hb:jF U bs ζ) (con:ay P f args g.h bs (aL K')) (h:∀ v ax,K' v ax →af P fn n R ops k D g l ((d,v)::σ) (ax ++ζ)):af P fn n R ops k D g (i::l) σ U:=cO.eO (fl:=false) ho (by simpa [ei] using hd) hx hc hv hargs hb con h
theorem bT.eO {f:FuncId} {xs:Array Operand} {ts:Array TypeId} {bH:List Value} {K' :Value→List az→Prop} {first cap:Array Value} (ho:bJ ops i n σ d (.call ⟨.value x,xs,ts⟩)) (_:true=true) (hx:aA σ x=some (.func (.func f) first cap)) (hc:dG P f=true) (hv:dX σ xs.toList=some bH) {args:Array Value} (hargs:first++bH.toArray++cap=args) {bs:List az} (hb:jF U bs ζ) (con:ay P f args g.h bs (aL K')) (h:∀ v ax,K' v ax →af P fn n R ops k D g l ((d,v)::σ) (ax ++ζ)):aJ P fn n R ops k D g true (i::l) σ U:=cO.eO (fl:=true) ho rfl hx hc hv hargs hb con h
theorem af.sliceTo (ho:bJ ops i n σ d (.slice t x none (some y) none)) (ht:P.underlying t=some (.slice e)) (he:(P.info? e).map (·.size)=some T.k) (hx:aA σ x=some v) (hy:aA σ y=some (.int kb lM)) (hs:aj T r v xs) (hz:lM=(b:Int)) (hb:b≤xs.length)
  (h:∀ u,aj T r u (xs.take b)→af P fn n R ops k D g l ((d,u)::σ) U):af P fn n R ops k D g (i::l) σ U:=by
 subst hz;obtain ⟨u,h1,h2⟩:=yC (g:=g) (a:=0) (b:=b) (kl:=.i64) ht he hx (lo:=none) (hi:=some y) (fun _ h=>nomatch h) (fun _=>rfl) (fun _ h=>by cases h;exact hy) (fun h=>nomatch h) hs (Nat.zero_le _) hb;exact .quiet ho rfl h1 (h u h2)
theorem af.sliceFrom (ho:bJ ops i n σ d (.slice t x (some y) none none)) (ht:P.underlying t=some (.slice e)) (he:(P.info? e).map (·.size)=some T.k) (hx:aA σ x=some v) (hy:aA σ y=some (.int ka qu)) (hs:aj T r v xs) (hz:qu=(a:Int)) (ha:a≤xs.length)
  (h:∀ u,aj T r u (xs.drop a)→af P fn n R ops k D g l ((d,u)::σ) U):af P fn n R ops k D g (i::l) σ U:=by
 subst hz;obtain ⟨u,h1,h2⟩:=yC (g:=g) (a:=a) (b:=xs.length) (kh:=.i64) ht he hx (lo:=some y) (hi:=none) (fun _ h=>by cases h;exact hy) (fun h=>nomatch h) (fun _ h=>nomatch h) (fun _=>rfl) hs ha (Nat.le_refl _);exact .quiet ho rfl h1 (h u (by rw [List.take_length] at h2;exact h2))
theorem cO.c9 {t T:TypeId} {x y:Operand} {b i:Nat} {cs news:List Value} {v:Value} {j:Nat} (ho:kf ops j=some (.store t x y)) {fl:Bool} (hd:ei fl ops j l=true) (hsz:(P.info? t).map (·.size)=some news.length) (hx:aA σ x=some (.pointer (some ⟨b,i,none⟩))) (hy:aA σ y=some v)
  (hv:v.cells.toList=news) (h1:news.all (·.oneCell')=true) (hs:bg U (obj b T cs) ζ) (hl:i+news.length≤cs.length)
  (h:af P fn n R ops k D g l σ (obj b T (cs.take i++news++cs.drop (i+news.length))::ζ)):aJ P fn n R ops k D g fl (j::l) σ U :=
 aJ.perm hs.perm (cO.mS (U:=obj b T cs::ζ) (ax :=obj b T (cs.take i++news++cs.drop (i+news.length))::ζ) ho rfl hd (fun _=>.c9 hsz hx hy hv h1 bg.here hl) h)
theorem af.c9 {t T:TypeId} {x y:Operand} {b i:Nat} {cs news:List Value} {v:Value} {j:Nat} (ho:kf ops j=some (.store t x y)) (hd:eH ops [j] l=true) (hsz:(P.info? t).map (·.size)=some news.length) (hx:aA σ x=some (.pointer (some ⟨b,i,none⟩))) (hy:aA σ y=some v) (hv:v.cells.toList=news) (h1:news.all (·.oneCell')=true) (hs:bg U (obj b T cs) ζ) (hl:i+news.length≤cs.length) (h:af P fn n R ops k D g l σ (obj b T (cs.take i++news++cs.drop (i+news.length))::ζ)):af P fn n R ops k D g (j::l) σ U:=cO.c9 (fl:=false) ho (by simpa [ei] using hd) hsz hx hy hv h1 hs hl h
theorem cO.bp {t T:TypeId} {x y:Operand} {b i:Nat} {cs:List Value} {v:Value} {j:Nat} (ho:kf ops j=some (.store t x y)) {fl:Bool} (hd:ei fl ops j l=true) (ht:dY P t=true) (hx:aA σ x=some (.pointer (some ⟨b,i,none⟩))) (hy:aA σ y=some v)
  (h1:v.oneCell' =true) (hs:bg U (obj b T cs) ζ) (hl:i<cs.length)
  (h:af P fn n R ops k D g l σ (obj b T (cs.set i v)::ζ)):aJ P fn n R ops k D g fl (j::l) σ U :=
 aJ.perm hs.perm (cO.mS (U:=obj b T cs::ζ) (ax :=obj b T (cs.set i v)::ζ) ho rfl hd (fun _=>.bp ht hx hy h1 bg.here hl) h)
theorem af.bp {t T:TypeId} {x y:Operand} {b i:Nat} {cs:List Value} {v:Value} {j:Nat} (ho:kf ops j=some (.store t x y)) (hd:eH ops [j] l=true) (ht:dY P t=true) (hx:aA σ x=some (.pointer (some ⟨b,i,none⟩))) (hy:aA σ y=some v) (h1:v.oneCell' =true) (hs:bg U (obj b T cs) ζ) (hl:i<cs.length) (h:af P fn n R ops k D g l σ (obj b T (cs.set i v)::ζ)):af P fn n R ops k D g (j::l) σ U:=cO.bp (fl:=false) ho (by simpa [ei] using hd) ht hx hy h1 hs hl h
end
end Go.Sp
end
section
/- Texts of this proof, one behind the other. -/
section
/- Texts of this proof, one behind the other. -/
section
/- Texts of this proof, one behind the other. -/
section
/- Texts of this proof, one behind the other. -/
section
/- Texts of this proof. -/
namespace Go.Sp
section
variable {P:Program} {σ:List (Nat × Value)} {g:bn} {U ζ aO:List az}
def YB {α:Type} (T:ag α) (e:TypeId) (v:Value) (xs:List α) (u:Value) (ys:List α):az:=fun h =>
 (∃ a c,v=.slice a xs.length c∧u=.slice a (xs.length+ys.length) c∧av T e u (xs++ys) h)∨Sat [av T e u (xs++ys),av T e v xs] h
theorem av.take {α:Type} {T:ag α} {e:TypeId} {a:Option Addr} {n m c:Nat} {xs ys:List α} {h:Fr} (hn:n=xs.length) (x:av T e (.slice a m c) (xs++ys) h):av T e (.slice a n c) xs h:=by
 subst hn;obtain ⟨ak,h1,h2,h3⟩:=x;have hl:ak.length=xs.length+ys.length:=by rw [h1.length];simp
 have ht:=h1.take xs.length;rw [List.take_left'] at ht
 ·refine ⟨ak.take xs.length,ht,?_,?_⟩
  ·rw [← h1.tn,List.length_take,h2,List.length_append];exact Nat.min_eq_left (Nat.mul_le_mul_right _ (by omega))
  ·rcases h3 with ⟨h4,h5⟩|⟨b,cap,cur,h4,h5,h6,h7,h8,h9⟩
   ·cases h4
    simp at h5
    exact .inl ⟨by rw [h5.1];rfl,by rw [h5.1];rfl⟩
   ·cases h4
    refine .inr ⟨b,c,cur,rfl,h5,?_,h7,h8,?_⟩
    ·rw [List.length_append] at h6;omega
    ·rw [← h1.tn,← h9,List.take_take,List.length_append,Nat.min_eq_left (Nat.mul_le_mul_right _ (by omega))]
 ·rfl
end
end Go.Sp
end
section
/- Texts of this proof. -/
namespace Go.Sp
theorem bX.len {β α:Type} {A:β→α→az}:∀ {bs:List β} {as:List α} {h:Fr},bX A bs as h→bs.length=as.length
 |[],[],_,_=>rfl
 |[],_::_,_,h=>h.elim
 |_::_,[],_,h=>h.elim
 |_::_,_::_,_,h=>by
  have h' :Sat [_,bX _ _ _] _:=h;obtain ⟨_,_,_,_,_,_,_,_,_,_,_,q,_⟩:=h'
  simp [bX.len q]
theorem Sat.EX {A B C:az} {aO:List az} (hs:∀ m,Sat [A,B] m→C m):∀ {m:Fr},Sat (A::B::aO) m→Sat (C::aO) m:=by
 rintro m ⟨h1,h2,d,s1,s2,x,k1,k2,kd,t1,t2,y,z⟩;refine ⟨h1.add k1,k2,Fr.p4 (Fr.fK d (Fr.bY _) t2) kd,Fr.ia s1 (Fr.aI t1 s2),Fr.aI t2 s2,hs _ ?_,z⟩;have d2:h1.cU k1:=Fr.fK d (Fr.bY _) t1;exact ⟨h1,k1,d2,Fr.dh _ _,Fr.dB d2,x,k1,Fr.emp,Fr.e5 (Fr.ea _),Fr.bY _,Fr.c6 _,y,trivial⟩
section
variable {ro:Option Nat} {P:Program} {fn:Func} {n:Nat} {R:Ending→World→Prop} {k:List Item} {σ:List (Nat × Value)} {D:List Deferred} {g:bn} {U ζ aO:List az} {ops:Array Oper} {L:List Nat} {β α:Type} {A:β→α→az} {todo:List Item}
theorem S.conv {B C:az} (s:bg U B ζ) (hc:∀ m,B m→∃ h:Fr,h.sub m∧C h) (h:S ro P fn n R todo σ D g (C::ζ)):S ro P fn n R todo σ D g U :=
 S.cB s (S.imp' (U:=B::ζ) (ζ:=C::ζ) (fun _ ⟨_,h2,d,s1,s2,x,y⟩=>let ⟨h3,u,z⟩:=hc _ x;⟨h3,h2,Fr.fK d u (Fr.bY _),Fr.aI u s1,s2,z,y⟩) h)
theorem S.lV {B:az} {p:Prop} (s:bg U B ζ) (hs:∀ m,B m→p) (h:p→S ro P fn n R todo σ D g U):S ro P fn n R todo σ D g U :=
 fun a w hf hd hw=>by
  obtain ⟨_,_,_,_,_,_,_,_,_,_,_,_,hB,_⟩:=hw.cB s;exact h (hs _ hB) a w hf hd hw
end
end Go.Sp
end
end
section
/- Texts of this proof. -/
namespace Go.Sp
section
variable {P:Program} {σ:List (Nat × Value)} {g:bn} {U ζ:List az} {t e:TypeId} {x:Operand}
theorem K_ (P:Program) (w:World) (f:Value→ByteArray→Sem (ForInStep ByteArray)) (hf:∀ (b:UInt8) s,f (bK b) s=.pure (.yield (s.push b))):∀ (xs:List UInt8) (s:ByteArray),
  (forIn (xs.map bK) s f:Sem ByteArray).run P w=.ok (⟨s.data++xs.toArray⟩) w
 |[],s=>by simp [forIn]
 |b::xs,s=>by
  have:=K_ P w f hf xs (s.push b);rw [List.map_cons,List.forIn_cons,hf];simp only [Sem.run_bind,Sem.run,Result.andThen_ok];rw [this];simp
theorem aG.toStr {v:Value} {xs:List UInt8} (ht:P.underlying t=some (.slice e)) (he:P.underlying e=some (.int .u8)) {t2:TypeId} (ht2:P.underlying t2=some .string) (hx:aA σ x=some v) (hs:aj ag.u8 g.h v xs) :
  aG P (.convert t t2 x) σ g U (.string (str xs)) U :=
 fun o ρ w ho hk hw=>by
  refine ⟨w,?_,hw⟩;obtain ⟨ak,ha,a,cap,rfl,h1,h2,h3,h4⟩:=hs
  cases a with
  |none =>
   obtain ⟨rfl,_⟩:=aj.ya (T:=ag.u8) (xs:=xs) (by decide) ⟨ak,ha,none,cap,rfl,h1,h2,h3,h4⟩
   simp [execOp,ho,hk x _ hx,convert,run_underlying ht,run_underlying he,run_underlying ht2,Conv.bytesToString]
   rfl
  |some a =>
   have hcs:ak.flatten=xs.map bK:=by
    clear h1 h2 h3 h4 hx
    induction ak generalizing xs with
    |nil=>cases xs with
     |nil=>rfl
     |cons _ _=>exact ha.elim
    |cons c ak ih=>cases xs with
     |nil=>exact ha.elim
     |cons b xs=>rw [List.flatten_cons,ih ha.2,show c=[bK b] from ha.1];rfl
   have hr:=run_loadCells_list (P:=P) w a ak.flatten fun j v hj=>by
    obtain ⟨hj',rfl⟩:=List.getElem?_eq_some_iff.1 hj;obtain ⟨p,hp,hc⟩:=h4 j hj'
    cases hp
    exact Fr.qA hw.ground hc
   have hlen:ak.flatten.length=xs.length:=by rw [hcs];simp
   rw [hlen] at hr
   simp [execOp,ho,hk x _ hx,convert,run_underlying ht,run_underlying he,run_underlying ht2,Conv.bytesToString,hr]
   rw [hcs,K_ P w _ (fun b s=>by simp [bK];rfl)];have e0:(⟨ByteArray.empty.data++xs.toArray⟩:ByteArray)=str xs:=by
    show (⟨#[]++xs.toArray⟩:ByteArray)=_
    simp [str]
   rw [e0];rfl
end
end Go.Sp
end
end
section
/- Texts of this proof. -/
namespace Go.Sp
def u64 (n:Int):Nat:=(n % 18446744073709551616).toNat
def jH (n:Int) (i:Nat):UInt8:=UInt8.ofNat (u64 n / 256 ^ i)
def be (n:Int):List UInt8:=[jH n 7,jH n 6,jH n 5,jH n 4,jH n 3,jH n 2,jH n 1,jH n 0]
@[simp] theorem y5 (n:Int):(be n).length=8:=rfl
theorem X3 (n:Int):u64 n<18446744073709551616:=by unfold u64;omega
theorem uG (n:Int):IntKind.u64.wrap n=(u64 n:Int):=by
 have:IntKind.u64.wrap n=n % 18446744073709551616:=by simp [IntKind.wrap,IntKind.bits,IntKind.signed]
 rw [this];unfold u64;omega
theorem L8 (n:Int):IntKind.u8.wrap n=n % 256:=by simp [IntKind.wrap,IntKind.bits,IntKind.signed]
theorem Lw (n:Int) (i:Nat) (h:i<8) (z:Int) (hz:z=8*(i:Int)):IntKind.u8.wrap ((IntKind.u64.wrap n).fdiv (2 ^ min z.toNat IntKind.u64.bits))=((jH n i).toNat:Int):=by
 subst hz;have e1:min (8*(i:Int)).toNat IntKind.u64.bits=8*i:=by simp [IntKind.bits];omega
 rw [e1,uG,L8];have e2:((2:Int) ^ (8*i))=((256 ^ i:Nat):Int):=by
  rw [Int.pow_mul,Int.natCast_pow];rfl
 rw [e2];have ck:((u64 n:Nat):Int).fdiv ((256 ^ i:Nat):Int)=((u64 n / 256 ^ i:Nat):Int):=by
  rw [Int.fdiv_eq_ediv_of_nonneg _ (Int.natCast_nonneg _)];rfl
 rw [ck];unfold jH;have:(UInt8.ofNat (u64 n / 256 ^ i)).toNat=u64 n / 256 ^ i % 256:=by simp
 rw [this];omega
def nu (xs:List UInt8):Nat:=xs.foldl (fun n c=>n*256+c.toNat) 0
theorem MR (xs:List UInt8) (c:UInt8):nu (xs++[c])=nu xs*256+c.toNat:=by simp [nu]
theorem KH (n:Nat):256 ^ (n+1)=256 ^ n*256:=Nat.pow_succ ..
theorem G8 (xs:List UInt8) (i:Nat) (h:i<xs.length):nu (xs.take (i+1))=nu (xs.take i)*256+xs[i].toNat:=by
 rw [List.take_succ_eq_append_getElem h,MR]
theorem B9 (xs:List UInt8) (i:Nat):nu (xs.take i)<256 ^ i:=by
 induction i with
 |zero=>simp [nu]
 |succ i ih =>
  by_cases h:i<xs.length
  ·rw [G8 xs i h,KH]
   have:=xs[i].toNat_lt
   omega
  ·have e:xs.take (i+1)=xs.take i:=by rw [List.take_of_length_le (by omega),List.take_of_length_le (by omega)]
   rw [e,KH];omega
theorem MQ (xs:List UInt8) (i:Nat) (hi:i<8):nu (xs.take i)<72057594037927936 :=
 Nat.lt_of_lt_of_le (B9 xs i) (Nat.le_trans (Nat.pow_le_pow_right (by decide) (show i≤7 by omega)) (by decide))
theorem Uw (n:Nat) (c:UInt8) (hn:n<72057594037927936) :
  bitsOf .or .u64 (IntKind.u64.wrap ((n:Int)*2 ^ min (8:Int).toNat IntKind.u64.bits)) (IntKind.u64.wrap (c.toNat:Int))=((n*256+c.toNat:Nat):Int):=by
 have hc:=c.toNat_lt;have e0:((n:Int)*2 ^ min (8:Int).toNat IntKind.u64.bits)=((n*256:Nat):Int):=by simp [IntKind.bits]
 have w:∀ k:Nat,k<18446744073709551616→IntKind.u64.wrap (k:Int)=k:=fun k h=>by rw [uG];unfold u64;omega
 rw [e0, w _ (by omega), w _ (by omega)];have e1 : (n * 256) ||| c.toNat = n * 256 + c.toNat := by
  have:=Nat.shiftLeft_add_eq_or_of_lt (b:=c.toNat) (i:=8) (by omega) n;rw [Nat.shiftLeft_eq] at this;exact this.symm
 have e2:∀ k:Nat,k<18446744073709551616→(BitVec.ofInt IntKind.u64.bits (k:Int)).toNat=k:=fun k h=>by rw [BitVec.toNat_ofInt];simp only [IntKind.bits];omega
 simp only [bitsOf,BitVec.toNat_or];rw [e2 _ (by omega),e2 _ (by omega),e1,w _ (by omega)]
def ux (n:Nat):Int:=if n<9223372036854775808 then n else n - 18446744073709551616
theorem Yk (n:Nat) (h:n<18446744073709551616):IntKind.i64.wrap (n:Int)=ux n:=by
 rw [IntKind.wrap_i64];unfold ux;split<;>omega
theorem Wp (n:Nat) (h:n<18446744073709551616):cK (ux n):=by unfold ux cK;split<;>omega
theorem MP (n:Int):nu (be n)=u64 n:=by
 have h:=X3 n;simp only [nu,be,List.foldl_cons,List.foldl_nil,jH,UInt8.toNat_ofNat'];generalize u64 n=k at h ⊢;simp only [show (256:Nat)^7=72057594037927936 from rfl,show (256:Nat)^6=281474976710656 from rfl,show (256:Nat)^5=1099511627776 from rfl,show (256:Nat)^4=4294967296 from rfl,show (256:Nat)^3=16777216 from rfl,show (256:Nat)^2=65536 from rfl,show (256:Nat)^1=256 from rfl,show (256:Nat)^0=1 from rfl]
 omega
theorem Wo (n:Int) (h:cK n):ux (nu (be n))=n:=by
 rw [MP];unfold ux u64;unfold cK at h;split<;>omega
def bytesOf (xs:List UInt8):List UInt8:=be xs.length++xs
@[simp] theorem Ho (xs:List UInt8):(bytesOf xs).length=8+xs.length:=by simp [bytesOf]
end Go.Sp
end
end
section
/- Texts of this proof. -/
namespace Go.Sp
section
variable {ro:Option Nat} {P:Program} {fn:Func} {n:Nat} {R:Ending→World→Prop} {k:List Item} {σ:List (Nat × Value)} {D:List Deferred} {g:bn} {U ζ aO:List az} {ops:Array Oper} {L l:List Nat} {i d:Nat} {t e:TypeId} {x y z:Operand} {α:Type} {T:ag α}
theorem S.L0 {c:Code} (h:S ro P fn n R (.code c::.inLoop c::k) σ D g U):S ro P fn n R (.code (.loop c)::k) σ D g U :=
 S.loop (fun _:Unit=>True) (fun _=>σ) (fun _=>U) (fun _=>0) () trivial Sub.refl rfl fun _ _ _=>h
theorem aG.W6 {kb:IntKind} {a:Option Addr} {m c q:Nat} {lM:Int} (ht:P.underlying t=some (.slice e)) (he:(P.info? e).map (·.size)=some T.k) (hx:aA σ x=some (.slice a m c)) (hy:aA σ y=some (.int kb lM)) (hz:lM=(q:Int)) (hq:q≤c) :
  aG P (.slice t x none (some y) none) σ g U (.slice a q c) U :=
 fun o ρ w ho hk hw=>⟨w,by
  subst hz
  cases a<;>simp [execOp,ho,hk x _ hx,hk y _ hy,Instr.sliceAt,run_underlying ht,Instr.slice,Instr.sliceBounds,Instr.sliceBound,asIntOf,hq,run_sizeOf he,Addr.add],hw⟩
theorem aG.min2 {kd:IntKind} {a b:Int} (hx:aA σ x=some (.int kd a)) (hy:aA σ y=some (.int kd b)) :
  aG P (.call ⟨.builtin .min,#[x,y],#[t,t]⟩) σ g U (.int kd (if b<a then b else a)) U :=
 fun o ρ w ho hk hw=>⟨w,by
  simp [execOp,ho,hk x _ hx,hk y _ hy,resolve,invoke,builtin,Builtin.min_,Builtin.min2],hw⟩
theorem bg.app {U ζ aO:List az} {A:az} (s:bg U A ζ):bg (U++aO) A (ζ++aO):=by
 induction s with
 |here=>exact .here
 |there _ ih=>exact .there ih
theorem cO.cA {fl:Bool} {cw len:Nat} {z:List Value} {parts:Array (Nat × Operand)} {vs:List Value} {ys:List α} (ho:bJ ops i n σ d (.buildSlice t len parts)) (hd:ei fl ops i l=true) (ht:P.underlying t=some (.slice e)) (he:dI P e T.k cw z) (hk:0<T.k)
  (hp:partsOf σ parts.toList 0=some vs) (hlen:parts.toList.length=len) (hvs:b5 (T.rel Fr.emp) (vs.map (·.cells.toList)) ys) (iW:len*T.k≤16777216)
  (h:∀ a c,af P fn n R ops k D g l ((d,.slice a len c)::σ) (av T e (.slice a len c) ys::U)):aJ P fn n R ops k D g fl (i::l) σ U :=
 cO.f_ (K:=fun v ax =>∃ a c,v=.slice a len c∧ax =av T e v ys::U) ho rfl hd (fun _=>(bF.cA ht he hk hp hlen hvs iW).imp fun _ _ ⟨a,c,h1,h2⟩=>⟨_,⟨a,c,h1,rfl⟩,h2⟩)
  fun _ _ ⟨a,c,h1,h2⟩=>by subst h1;subst h2;exact h a c
theorem af.cA {cw len:Nat} {z:List Value} {parts:Array (Nat × Operand)} {vs:List Value} {ys:List α} (ho:bJ ops i n σ d (.buildSlice t len parts)) (hd:eH ops [i] l=true) (ht:P.underlying t=some (.slice e)) (he:dI P e T.k cw z) (hk:0<T.k) (hp:partsOf σ parts.toList 0=some vs) (hlen:parts.toList.length=len) (hvs:b5 (T.rel Fr.emp) (vs.map (·.cells.toList)) ys) (iW:len*T.k≤16777216) (h:∀ a c,af P fn n R ops k D g l ((d,.slice a len c)::σ) (av T e (.slice a len c) ys::U)):af P fn n R ops k D g (i::l) σ U:=cO.cA (fl:=false) ho (by simpa [ei] using hd) ht he hk hp hlen hvs iW h
theorem bT.cA {cw len:Nat} {z:List Value} {parts:Array (Nat × Operand)} {vs:List Value} {ys:List α} (ho:bJ ops i n σ d (.buildSlice t len parts)) (_:true=true) (ht:P.underlying t=some (.slice e)) (he:dI P e T.k cw z) (hk:0<T.k) (hp:partsOf σ parts.toList 0=some vs) (hlen:parts.toList.length=len) (hvs:b5 (T.rel Fr.emp) (vs.map (·.cells.toList)) ys) (iW:len*T.k≤16777216) (h:∀ a c,af P fn n R ops k D g l ((d,.slice a len c)::σ) (av T e (.slice a len c) ys::U)):aJ P fn n R ops k D g true (i::l) σ U:=cO.cA (fl:=true) ho rfl ht he hk hp hlen hvs iW h
theorem cO.gN {fl:Bool} {cw:Nat} {z:List Value} {v u:Value} {xs ys:List α} (ho:bJ ops i n σ d (.call ⟨.builtin .append,#[x,y],#[t,t]⟩)) (hd:ei fl ops i l=true) (ht:P.underlying t=some (.slice e)) (he:dI P e T.k cw z) (hk:0<T.k) (hx:aA σ x=some v) (hy:aA σ y=some u)
  (hl:bg U (av T e u ys) aO) (hs:bg aO (av T e v xs) ζ) (hb:(xs.length+ys.length)*cw≤140737488355328) (h63:xs.length+ys.length≤9223372036854775807)
  (h:∀ a c,af P fn n R ops k D g l ((d,.slice a (xs.length+ys.length) c)::σ) (av T e (.slice a (xs.length+ys.length) c) (xs++ys)::ζ)):aJ P fn n R ops k D g fl (i::l) σ U :=
 cO.f_ (K:=fun v' ax =>∃ a c,v' =.slice a (xs.length+ys.length) c∧ax =av T e v' (xs++ys)::ζ) ho rfl hd (fun _=>(bF.gN ht he hk hx hy hl.app hs.app hb h63).imp fun _ _ ⟨a,c,h1,h2⟩=>⟨_,⟨a,c,h1,rfl⟩,h2⟩)
  fun _ _ ⟨a,c,h1,h2⟩=>by subst h1;subst h2;exact h a c
theorem af.gN {cw:Nat} {z:List Value} {v u:Value} {xs ys:List α} (ho:bJ ops i n σ d (.call ⟨.builtin .append,#[x,y],#[t,t]⟩)) (hd:eH ops [i] l=true) (ht:P.underlying t=some (.slice e)) (he:dI P e T.k cw z) (hk:0<T.k) (hx:aA σ x=some v) (hy:aA σ y=some u) (hl:bg U (av T e u ys) aO) (hs:bg aO (av T e v xs) ζ) (hb:(xs.length+ys.length)*cw≤140737488355328) (h63:xs.length+ys.length≤9223372036854775807) (h:∀ a c,af P fn n R ops k D g l ((d,.slice a (xs.length+ys.length) c)::σ) (av T e (.slice a (xs.length+ys.length) c) (xs++ys)::ζ)):af P fn n R ops k D g (i::l) σ U:=cO.gN (fl:=false) ho (by simpa [ei] using hd) ht he hk hx hy hl hs hb h63 h
theorem cO.mF {fl:Bool} {cw:Nat} {z:List Value} {v u:Value} {xs ys:List α} (ho:bJ ops i n σ d (.call ⟨.builtin .append,#[x,y],#[t,t]⟩)) (hd:ei fl ops i l=true) (hT:T.Pure) (ht:P.underlying t=some (.slice e)) (he:dI P e T.k cw z) (hk:0<T.k) (hx:aA σ x=some v) (hy:aA σ y=some u)
  (hs:bg U (av T e v xs) ζ) (hu:aj T g.h u ys) (hb:(xs.length+ys.length)*cw≤140737488355328) (h63:xs.length+ys.length≤9223372036854775807)
  (h:∀ a c,af P fn n R ops k D g l ((d,.slice a (xs.length+ys.length) c)::σ) (av T e (.slice a (xs.length+ys.length) c) (xs++ys)::ζ)):aJ P fn n R ops k D g fl (i::l) σ U :=
 cO.f_ (K:=fun v' ax =>∃ a c,v' =.slice a (xs.length+ys.length) c∧ax =av T e v' (xs++ys)::ζ) ho rfl hd (fun _=>(bF.mF hT ht he hk hx hy hs.app hu hb h63).imp fun _ _ ⟨a,c,h1,h2⟩=>⟨_,⟨a,c,h1,rfl⟩,h2⟩)
  fun _ _ ⟨a,c,h1,h2⟩=>by subst h1;subst h2;exact h a c
theorem af.mF {cw:Nat} {z:List Value} {v u:Value} {xs ys:List α} (ho:bJ ops i n σ d (.call ⟨.builtin .append,#[x,y],#[t,t]⟩)) (hd:eH ops [i] l=true) (hT:T.Pure) (ht:P.underlying t=some (.slice e)) (he:dI P e T.k cw z) (hk:0<T.k) (hx:aA σ x=some v) (hy:aA σ y=some u) (hs:bg U (av T e v xs) ζ) (hu:aj T g.h u ys) (hb:(xs.length+ys.length)*cw≤140737488355328) (h63:xs.length+ys.length≤9223372036854775807) (h:∀ a c,af P fn n R ops k D g l ((d,.slice a (xs.length+ys.length) c)::σ) (av T e (.slice a (xs.length+ys.length) c) (xs++ys)::ζ)):af P fn n R ops k D g (i::l) σ U:=cO.mF (fl:=false) ho (by simpa [ei] using hd) hT ht he hk hx hy hs hu hb h63 h
theorem cO.ox {v:Value} {xs:List α} {j:Nat} {kd:IntKind} (ho:bJ ops i n σ d (.indexAddr t x y)) {fl:Bool} (hd:ei fl ops i l=true) (ht:P.underlying t=some (.slice e)) (he:(P.info? e).map (·.size)=some T.k) (hx:aA σ x=some v) {cq:Int} (hy:aA σ y=some (.int kd cq)) (dZ:cq=(j:Int))
  (hs:bg U (av T e v xs) ζ) (hj:j<xs.length) (h:∀ p,pZ v T.k j p→af P fn n R ops k D g l ((d,.pointer (some p))::σ) U):aJ P fn n R ops k D g fl (i::l) σ U :=
 aJ.perm hs.perm (cO.f_ (U:=av T e v xs::ζ) (K:=fun u ax =>∃ p,u=.pointer (some p)∧pZ v T.k j p∧ax =av T e v xs::ζ) ho rfl hd
  (fun _=>(bF.ox ht he hx hy dZ bg.here hj).imp fun _ _ ⟨p,a,b,c⟩=>⟨_,⟨p,a,b,rfl⟩,c⟩) fun _ _ ⟨p,a,b,c⟩=>by subst a;subst c;exact aJ.perm hs.perm.symm (h p b))
theorem af.ox {v:Value} {xs:List α} {j:Nat} {kd:IntKind} (ho:bJ ops i n σ d (.indexAddr t x y)) (hd:eH ops [i] l=true) (ht:P.underlying t=some (.slice e)) (he:(P.info? e).map (·.size)=some T.k) (hx:aA σ x=some v) {cq:Int} (hy:aA σ y=some (.int kd cq)) (dZ:cq=(j:Int)) (hs:bg U (av T e v xs) ζ) (hj:j<xs.length) (h:∀ p,pZ v T.k j p→af P fn n R ops k D g l ((d,.pointer (some p))::σ) U):af P fn n R ops k D g (i::l) σ U:=cO.ox (fl:=false) ho (by simpa [ei] using hd) ht he hx hy dZ hs hj h
theorem cO.ru {v u:Value} {xs:List α} {j q:Nat} {p:Addr} {a:α} (ho:kf ops q=some (.store t x y)) {fl:Bool} (hd:ei fl ops q l=true) (hsz:(P.info? t).map (·.size)=some T.k) (hx:aA σ x=some (.pointer (some p))) (hp:pZ v T.k j p) (hy:aA σ y=some u)
  (hs:bg U (av T e v xs) ζ) (hj:j<xs.length) (hu:T.rel Fr.emp u.cells.toList a) (h:af P fn n R ops k D g l σ (av T e v (xs.set j a)::ζ)):aJ P fn n R ops k D g fl (q::l) σ U :=
 aJ.perm hs.perm (cO.mS (U:=av T e v xs::ζ) (ax :=av T e v (xs.set j a)::ζ) ho rfl hd (fun _=>.ru hsz hx hp hy bg.here hj hu) h)
theorem af.ru {v u:Value} {xs:List α} {j q:Nat} {p:Addr} {a:α} (ho:kf ops q=some (.store t x y)) (hd:eH ops [q] l=true) (hsz:(P.info? t).map (·.size)=some T.k) (hx:aA σ x=some (.pointer (some p))) (hp:pZ v T.k j p) (hy:aA σ y=some u) (hs:bg U (av T e v xs) ζ) (hj:j<xs.length) (hu:T.rel Fr.emp u.cells.toList a) (h:af P fn n R ops k D g l σ (av T e v (xs.set j a)::ζ)):af P fn n R ops k D g (q::l) σ U:=cO.ru (fl:=false) ho (by simpa [ei] using hd) hsz hx hp hy hs hj hu h
theorem af.slot {v v' :Value} (q:Nat) (hl:look σ q=some v) (h0:v=v') (h:af P fn n R ops k D g L ((q,v')::σ) U):af P fn n R ops k D g L σ U:=af.weaken h (Sub.Cz hl h0 Sub.refl)
end
theorem LZ {a b:UInt8} (h:(a.toNat:Int)=b.toNat):a=b:=UInt8.toNat_inj.mp (by omega)
end Go.Sp
end
end
end
section
/- Texts of this proof, one behind the other. -/
section
/- Texts of this proof. -/
namespace Go.Sp
theorem Holds.putObj {w:World} {g:bn} {U:List az} {b:Nat} {o:Obj} (o' :Obj) (h:Holds w g (blk b o::U)):Holds (w.putObj b o') g (blk b o' ::U):=by
 have hb:=h.block;have hlt:=(Array.getElem?_eq_some_iff.1 hb).1;exact h.setBlock (World.putObj_heap_same hlt) (fun i hi=>World.putObj_heap_other hi) rfl rfl rfl
def pX (l:Nat):Value:=.func (.yield l) #[] #[]
def gF (P:Program) (l:Nat) (args:Array Value) (r:Fr) (U:List az) (Post:Ending→List az→Prop):Prop :=
 ∀ g:bn,r.sub g.h→∀ w,Holds w g U→∃ f tmps assign body,(Instr.yield l args).run P w=.ok (.round l f tmps assign body) w ∧
  RoundIn Fence.wide 0 P l f tmps assign body w fun e w' =>∃ ax,Post e ax ∧Holds w' g ax
section ycon
variable {P:Program} {l:Nat} {args:Array Value} {r:Fr} {U:List az} {Post:Ending→List az→Prop}
theorem gF.sub {r' :Fr} (h:gF P l args r U Post) (hs:r.sub r'):gF P l args r' U Post:=fun g hr w hw=>h g (Fr.aI hs hr) w hw
theorem gF.frame {ζ:List az} (h:gF P l args r U Post):gF P l args r (U++ζ) fun e ax =>∃ cW,Post e cW∧ax =cW++ζ :=
 fun g hr w hw=>by
  obtain ⟨k,hk,hd,hw'⟩:=hw.zI;obtain ⟨f,t,a,b,h1,h2⟩:=h (g.add k) (Fr.aI hr (Fr.dh _ _)) w hw';exact ⟨f,t,a,b,h1,h2.mono fun _ _ ⟨ax,x,y⟩=>⟨ax ++ζ,⟨ax,x,rfl⟩,y.Ga hk hd⟩⟩
theorem gF.perm {ax :List az} (p:ax.Perm U) (h:gF P l args r U Post):gF P l args r ax Post:=fun g hr w hw=>h g hr w (hw.perm p)
end ycon
theorem Wc {P:Program} {ρ:Operand→Value} {o:Oper} {x:Operand} {xs:Array Operand} {ts:Array TypeId} {l:Nat} (ho:o.op=.call ⟨.value x,xs,ts⟩) (hx:ρ x=pX l) (w:World) :
  (execOp ρ o).run P w=(Instr.yield l (xs.map ρ)).run P w:=by
 have:(#[]:Array Value)++xs.map ρ=xs.map ρ:=by simp
 simp [execOp,ho,resolve,hx,Deferred.ofValue,invoke,pX]
section
variable {ro:Option Nat} {P:Program} {fn:Func} {n:Nat} {R:Ending→World→Prop} {k:List Item} {σ:List (Nat × Value)} {D:List Deferred} {g:bn} {U ζ aO:List az}
 {ops:Array Oper} {i d l:Nat} {ls:List Nat} {f:FuncId} {x y:Operand} {xs:Array Operand} {ts:Array TypeId} {bH:List Value} {K:Value→List az→Prop}
theorem O.yield (ho:bJ ops i n σ d (.call ⟨.value x,xs,ts⟩)) (hx:aA σ x=some (pX l)) (hv:dX σ xs.toList=some bH) {args:Array Value} (hargs:bH.toArray=args) (con:gF P l args g.h U (aL K))
  (h:∀ v ax,K v ax →O ro P fn n R ops ls k ((d,v)::σ) D g (ax ++ζ)):O ro P fn n R ops (i::ls) k σ D g (U++ζ):=by
 intro a w hf hd hw
 obtain ⟨o,hi,eB,hop,hg,hb⟩:=ho.spec;have hm:xs.map a.eval=bH.toArray:=by rw [← qF hf.j_ hv,← Array.toList_map]
 obtain ⟨f,tm,as,bd,h1,h2⟩:=(con.frame (ζ:=ζ)) g (Fr.bY _) w hw;have hrun:(execOp a.eval o).run P w=.ok (.round l f tm as bd) w:=by
  rw [Wc hop (hf.j_ x _ hx) w,hm,hargs];exact h1
 refine O.mK hi (hg a hf) (by rw [hop];intro c hc;cases hc) hrun ?_;rw [Oper.uponIn_round];refine ⟨fun h=>(by cases h),RoundIn.mono h2 fun e w' hh=>?_⟩;obtain ⟨ax,⟨cW,hp,rfl⟩,hw'⟩:=hh
 cases e with
 |returned v =>
  show wpOpsIn (nq ro) 0 P ops _ ls (a.put o.dst v) w'
  rw [eB];exact h v cW hp _ _ (hf.put hb) hd hw'
 |panicked _=>exact hp.elim
 |outgrown=>exact hp.elim
theorem Sat.pack {ws:List az} {A:az} {ζ:List az} (hA:∀ m,Sat ws m→A m) {m:Fr} (h:Sat (ws++ζ) m):Sat (A::ζ) m:=by
 obtain ⟨h1,h2,d,s1,s2,x,y⟩:=Sat.split h;exact ⟨h1,h2,d,s1,s2,hA _ x,y⟩
theorem Holds.pack {w:World} {ws:List az} {A:az} (hA:∀ m,Sat ws m→A m) (h:Holds w g (ws++ζ)):Holds w g (A::ζ):=h.imp fun _=>Sat.pack hA
theorem gF.imp {args:Array Value} {r:Fr} {Post:Ending→List az→Prop} (hs:∀ m,Sat U m→Sat ζ m) (h:gF P l args r ζ Post):gF P l args r U Post:=fun g hr w hw=>h g hr w (hw.imp hs)
theorem gF.th {args:Array Value} {r:Fr} {Post:Ending→List az→Prop} {α:Type} {A:α→az} (h:∀ x,gF P l args r (A x::U) Post):gF P l args r ((fun m=>∃ x,A x m)::U) Post:=fun g hr w hw=>by
 obtain ⟨p,q,rr,k,d,s1,s2,k1,k2,kd,t1,t2,⟨x,hx⟩,y⟩:=hw;exact h x g hr w ⟨p,q,rr,k,d,s1,s2,k1,k2,kd,t1,t2,hx,y⟩
theorem O.Ys (ho:bJ ops i n σ d (.call ⟨.value x,xs,ts⟩)) (hx:aA σ x=some (pX l)) (hv:dX σ xs.toList=some bH) {args:Array Value} (hargs:bH.toArray=args) {bs:List az} (hb:jF U bs ζ) (con:gF P l args g.h bs (aL K))
  (h:∀ v ax,K v ax →O ro P fn n R ops ls k ((d,v)::σ) D g (ax ++ζ)):O ro P fn n R ops (i::ls) k σ D g U :=
 fun a w hf hd hw=>O.yield ho hx hv hargs con h a w hf hd (hw.perm hb.perm)
theorem S.beginRound {L:Loop} (hs:bg U (blk l (.loop L)) ζ) (hr:L.state=.ready) (h:S (some l) P fn n R k σ D g (blk l (.loop { L with state:=.busy })::ζ)):S (some l) P fn n R (.beginRound::k) σ D g U:=by
 intro a w hf hd hw b cs hb hfn
 have hw1:=hw.cB hs;obtain ⟨e,a',w',q,r⟩:=h a _ hf hd (hw1.putObj (.loop { L with state:=.busy })) b cs hb hfn;exact ⟨e,a',w',q,.of_steps (.one (fenced_wide P _) (stepR_beginRound hb (run_beginRound hw1.block hr))) r⟩
theorem S.Wa {L:Loop} (hs:bg U (blk l (.loop L)) ζ) (h:∀ w,Holds w g (blk l (.loop { L with state:=.ready,pending:=none })::ζ)→R (.returned (.bool true)) w):S (some l) P fn n R [] σ D g U:=by
 intro a w hf hd hw
 have hw1:=hw.cB hs;exact .nil ⟨_,_,run_endRound none hw1.block,h _ (hw1.putObj _)⟩
def under:List Nat→List Value→List (Nat × Value)→List (Nat × Value)
 |p::ps,v::vs,σ=>under ps vs ((p,v)::σ)
 |_,_,σ=>σ
theorem H9:∀ (ps:List Nat) (vs:List Value) (tm:Array Value) (σ:List (Nat × Value)),(∀ p∈ps,Nat.blt p n=true)→Fits { tmps:=tm,defers:=[] } n σ →
  Fits { tmps:=(ps.zip vs).foldl (fun tmps (x:Nat × Value)=>tmps.setIfInBounds x.1 x.2) tm,defers:=[] } n (under ps vs σ)
 |[],_,_,_,_,h=>h
 |_::_,[],_,_,_,h=>h
 |p::ps,v::vs,tm,σ,hb,h=>by
  have:=h.put (v:=v) (hb p (List.mem_cons_self ..));exact H9 ps vs _ _ (fun q hq=>hb q (List.mem_cons_of_mem _ hq)) this
theorem gF.of {L:Loop} {args:Array Value} {r:Fr} {U:List az} {Post:Ending→List az→Prop} (vs:List Value) (ps:List Nat) (ha:args=vs.toArray) (hps:L.params=ps.toArray) (mM:vs.length=ps.length)
  (hb:ps.all (fun p=>Nat.blt p n)=true) (hfn:∃ f,P.funcs[L.fn]?=some f) (hfit:Fits { tmps:=L.tmps,defers:=[] } n σ)
  (h:∀ g:bn,r.sub g.h→∀ R:Ending→World→Prop,(∀ e ax w',Post e ax →Holds w' g ax →R e w')→S (some l) P fn n R [.code L.assign,.beginRound,.code L.body] (under ps vs σ) [] g (blk l (.loop L)::U)) :
  gF P l args r (blk l (.loop L)::U) Post:=by
 intro g hr w hw
 subst ha;refine ⟨_,_,_,_,run_yield hw.block (by simp [hps,mM]),Wb (fn:=fn) hfn ?_⟩;refine h g hr _ (fun e ax w' hp hh=>⟨ax,hp,hh⟩) _ w ?_ rfl hw;have:=H9 ps vs L.tmps σ (fun p hp=>List.all_eq_true.1 hb p hp) hfit;have e:L.params.zip vs.toArray=(ps.zip vs).toArray:=by rw [hps];simp
 rw [e,List.foldl_toArray];exact this
def qb (o5:FuncId) (tm:Array Value) (ps:Array Tmp) (assign body:Code) (jg:Nat):Loop:={ state:=.ready,pending:=none,fn:=o5,tmps:=tm,params:=ps,assign,body,defers:=jg }
theorem S.rangeFunc {first cap:Array Value} {ps:Array Tmp} {assign body:Code} {J:Option Code→List az→Prop} (hx:aA σ x=some (.func (.func f) first cap)) (hc:dG P f=true)
  (con:∀ (l jg o5:Nat) (tm:Array Value),(∃ fn',P.funcs[o5]?=some fn')→Fits { tmps:=tm,defers:=[] } n σ →
   ay P f (first++#[pX l]++cap) g.h (blk l (.loop (qb o5 tm ps assign body jg))::U) (aL fun _ ax =>∃ L ζ,L.state≠.busy∧J L.pending ζ∧ax =blk l (.loop L)::ζ))
  (h:∀ jg jump ζ,J jump ζ→S none P fn n R ((jump.map Item.code).toList++k) σ (⟨.collected jg,#[]⟩::D) g (blk jg (.deferred (some []))::ζ)) :
  S none P fn n R (.code (.rangeFunc x ps assign body)::k) σ D g U:=by
 intro a w hf hd hw b cs hb hfn
 have he:=run_enterLoop_outer (P:=P) (w:=w) b.fn a.tmps ps assign body;rw [← hb] at he;have hres:(resolve a.eval (rangeCall x (w.heap.size+1)) 0).run P ((w.alloc (.deferred (some []))).alloc (.loop (qb b.fn a.tmps ps assign body w.heap.size))) =
   .ok ⟨.fn (.func f) cap,first++#[pX (w.heap.size+1)]⟩ ((w.alloc (.deferred (some []))).alloc (.loop (qb b.fn a.tmps ps assign body w.heap.size))):=by
  have hce:∀ v,a.eval (.const v)=v:=fun _=>rfl
  simp [rangeCall,resolve,hf.eval hx,Deferred.ofValue,pX,hce]
 have hinv:(invoke (Target.fn (.func f) cap) (first++#[pX (w.heap.size+1)])).run P ((w.alloc (.deferred (some []))).alloc (.loop (qb b.fn a.tmps ps assign body w.heap.size))) =
   .ok (.enter f (first++#[pX (w.heap.size+1)]++cap)) ((w.alloc (.deferred (some []))).alloc (.loop (qb b.fn a.tmps ps assign body w.heap.size))):=by
  simp only [invoke];exact A_ hc _ _
 have xl:=stepR_rangeFunc (P:=P) (b:=b) (a:=a) (k:=k) (cs:=cs) (w:=w) he hres hinv;have hw1:=(hw.alloc (.deferred (some []))).alloc (.loop (qb b.fn a.tmps ps assign body w.heap.size));have hsz:(w.alloc (.deferred (some []))).heap.size=w.heap.size+1:=by simp
 rw [hsz] at hw1;have hc1:=(con (w.heap.size+1) w.heap.size b.fn a.tmps hfn ⟨hf.1,hf.2⟩).frame (ζ:=[blk w.heap.size (.deferred (some []))]) g (Fr.bY _) _
  (hw1.perm (List.Perm.cons _ (List.perm_append_comm (l₁:=[_]) (l₂:=U))))
 obtain ⟨e,w₃,fr,hR,qU,oq,hleave⟩:=hc1 (b.atR { a with defers:=[⟨.collected w.heap.size,#[]⟩]++a.defers } (.inRangeFunc (w.heap.size+1)::k)::cs);obtain ⟨ax,⟨cW,hp,rfl⟩,Jp⟩:=hR
 cases e with
 |panicked _=>exact hp.elim
 |outgrown=>exact hp.elim
 |returned v =>
  obtain ⟨L,ζ,PI,hJ,rfl⟩:=hp;have Rq:=Jp.putObj (o:=.loop L) (.loop { L with state:=.exhausted });have hend:=run_endLoop (P:=P) Jp.block PI;have Rr:Holds (w₃.putObj (w.heap.size+1) (.loop { L with state:=.exhausted })) g (blk w.heap.size (.deferred (some []))::ζ):=(Holds.drop Rq).perm List.perm_append_comm;have WH:StepsIn (Machine.fenced P Fence.wide) P (lone (b.atR a (.code (.rangeFunc x ps assign body)::k)) cs w)
    (lone (b.atR { a with defers:=[⟨.collected w.heap.size,#[]⟩]++a.defers } ((L.pending.map Item.code).toList++k)) cs (w₃.putObj (w.heap.size+1) (.loop { L with state:=.exhausted }))):=by
   refine .head (fenced_wide P _) xl (StepsIn.trans (stepsIn_wide.2 qU) (.head (fenced_wide P _) ?_ (.one (fenced_wide P _) (stepR_endRangeFunc hend))));rw [← finish_atR_inRangeFunc (w.heap.size+1) v];exact step_leave_returned hleave
  obtain ⟨e,a',w',q,r⟩:=h w.heap.size L.pending ζ hJ { a with defers:=[⟨.collected w.heap.size,#[]⟩]++a.defers } _ ⟨hf.1,hf.2⟩ (by simp [hd]) Rr b cs hb hfn;exact ⟨e,a',w',q,.of_steps WH r⟩
inductive Marks:List Deferred→List az→List az→Prop
 |nil {U:List az}:Marks [] U U
 |cons {jg:Nat} {D:List Deferred} {U ζ aO:List az} (hs:bg U (blk jg (.deferred (some []))) aO) (h:Marks D aO ζ):Marks (⟨.collected jg,#[]⟩::D) U ζ
theorem Marks.lv {tmps:Array Value} (m:Marks D U ζ):∀ {w:World},Holds w g U→(∀ w',Holds w' g ζ→Leaves P fn tmps R [] .returning w')→eS P fn tmps R D .returning w:=by
 induction m with
 |nil=>exact fun hw h=>h _ hw
 |cons hs m ih =>
  intro w hw h
  have hw1:=hw.cB hs;exact ⟨by simp,.inl ⟨_,_,rfl,run_takeDeferred hw1.block,ih (hw1.putObj _).drop h⟩⟩
def FP (tmps:Array Value):ResultVar→Sem Value
 |.tmp t=>pure (tmps.getD t undef)
 |.cell a t=>do loadVar t (← asAddr (tmps.getD a undef))
def yU (P:Program) (n:Nat) (σ:List (Nat × Value)) (g:bn) (ζ:List az) (r:ResultVar) (v:Value):Prop:=∀ a w,Fits a n σ→Holds w g ζ→(FP a.tmps r).run P w=.ok v w
theorem yU.tmp {t:Nat} {v:Value} (hl:look σ t=some v):yU P n σ g ζ (.tmp t) v:=fun a w hf hw=>by
 have:=hf.2 t v hl
 simp [FP,Array.getD_eq_getD_getElem?,this]
theorem V1 (tmps:Array Value):results fn tmps=(do
  let vs ← fn.results.mapM (FP tmps)
  pure (if h:vs.size=1 then vs[0] else .tuple vs)):=rfl
theorem results1 {a:Act} {w:World} {r:ResultVar} {v:Value} (hr:fn.results=#[r]) (h:yU P n σ g ζ r v) (hf:Fits a n σ) (hw:Holds w g ζ):(results fn a.tmps).run P w=.ok v w:=by
 rw [V1];simp [hr,Sem.run_bind,h a w hf hw,Result.andThen]
def GD (todo:List Item):Prop:=todo=[]∨∃ k,todo=.code .ret::k
theorem S.off {todo:List Item} (ht:GD todo) (h:∀ a w,Fits a n σ→a.defers=D→Holds w g U→eS P fn a.tmps R D .returning w):S none P fn n R todo σ D g U:=by
 rcases ht with rfl|⟨k,rfl⟩
 ·intro a w hf hd hw;refine .nil ?_;show eS P fn a.tmps R a.defers .returning w;rw [hd];exact h a w hf hd hw
 ·intro a w hf hd hw;refine .ret ?_;show eS P fn a.tmps R a.defers .returning w;rw [hd];exact h a w hf hd hw
theorem S.V4 {todo:List Item} {r1:ResultVar} {v1:Value} (ht:GD todo) (m:Marks D U ζ) (hr:fn.results=#[r1]) (h1:yU P n σ g ζ r1 v1) (h:∀ w,Holds w g ζ→R (.returned v1) w):S none P fn n R todo σ D g U :=
 S.off ht fun _ _ hf _ hw=>m.lv hw fun w' hw' =>⟨_,results1 hr h1 hf hw',h w' hw'⟩
theorem S.dx {todo:List Item} {b:Nat} {T:TypeId} {cs cs' :List Value} (s:bg U (obj b T cs) ζ) (e:cs=cs') (h:S ro P fn n R todo σ D g (obj b T cs' ::ζ)):S ro P fn n R todo σ D g U:=S.cB s (e ▸ h)
end
end Go.Sp
end
section
/- Texts of this proof. -/
namespace Go.Sp
open Go.ChangeShapes
theorem Ii (w:World) (a:Addr):Fr.cell w.fr a=w.cell? a:=by
 unfold Fr.cell World.cell? World.fr
 cases w.heap[a.block]? with
 |none=>rfl
 |some o=>cases o<;>rfl
def ag.unit:ag Unit:={ k:=0,rel:=fun _ cs _=>cs=[],len:=fun h=>by rw [h];rfl,mono:=fun _ h=>h,one:=fun h c hc=>by subst h;simp at hc }
def ag.prod {α β:Type} (T:ag α) (kP:ag β):ag (α × β) :=
 {k:=T.k+kP.k,rel:=fun h cs x=>∃ c1 c2,cs=c1++c2∧T.rel h c1 x.1∧kP.rel h c2 x.2,len:=fun ⟨c1,c2,h,a,b⟩=>by rw [h,List.length_append,T.len a,kP.len b]
  mono:=fun s ⟨c1,c2,h,a,b⟩=>⟨c1,c2,h,T.mono s a,kP.mono s b⟩
  one:=fun ⟨c1,c2,h,a,b⟩ c hc=>by
   subst h
   rcases List.mem_append.1 hc with x|x
   ·exact T.one a c x
   ·exact kP.one b c x }
def uf {H:Type} (P:Program) (t:TypeId) (d:DataW H):Prop:=∀ n∈d.weights P t,n≤reachBytes
theorem JX {H:Type} {P:Program} {e:TypeId}:∀ {ds:List (DataW H)} (_:∀ n∈DataW.weightsAll P e ds,n≤reachBytes) (i:Nat) (hi:i<ds.length),uf P e ds[i]
 |d::ds,h,0,_=>fun n hn=>h n (by simp [DataW.weightsAll];exact .inl hn)
 |d::ds,h,i+1,hi=>JX (ds:=ds) (fun n hn=>h n (by simp [DataW.weightsAll];exact .inr hn)) i (by simpa using hi)
theorem x4 {H:Type} {P:Program}:∀ {ts:List TypeId} {ds:List (DataW H)} (_:∀ n∈DataW.weightsEach P ts ds,n≤reachBytes) (i:Nat) (ht:i<ts.length) (hi:i<ds.length),uf P ts[i] ds[i]
 |t::ts,d::ds,h,0,_,_=>fun n hn=>h n (by simp [DataW.weightsEach];exact .inl hn)
 |t::ts,d::ds,h,i+1,ht,hi=>x4 (ts:=ts) (ds:=ds) (fun n hn=>h n (by simp [DataW.weightsEach];exact .inr hn)) i (by simpa using ht) (by simpa using hi)
def dR (P:Program) (t:TypeId) {α:Type} (T:ag α) (Q:α→Prop):Prop :=
 ∀ (H:Type) (enc:TypeId × Value→H) (w:World) (base:Nat) (spare:Nat→Bool) (held:Bool) (fuel:Nat) (cs:List Value) (x:DataW H × List MemPlace),
  DataW.trod enc P w base spare held fuel t cs=some x→uf P t x.1→∃ a,T.rel w.fr cs a∧Q a
def sY {α:Type} (Q:α→Prop) (xs:List α):Prop:=xs.length≤140737488351232∧∀ x∈xs,Q x
def pY {α:Type} (_:α):Prop:=True
theorem dR.u8 {P:Program} {t:TypeId} (ht:P.underlying t=some (.int .u8)):dR P t ag.u8 pY:=fun _ _ _ _ _ _ _ _ _ h _=>by
 obtain ⟨n,rfl,_,hw⟩:=DataW.trod_int ht h;have:0≤n∧n≤255:=by simpa [Lit.wf,IntKind.min,IntKind.max,IntKind.wrap,IntKind.bits,IntKind.signed] using hw
 refine ⟨UInt8.ofNat n.toNat,?_,trivial⟩
 show _=_
 have e:((UInt8.ofNat n.toNat).toNat:Int)=n:=by
  have:(UInt8.ofNat n.toNat).toNat=n.toNat % 256:=by simp
  omega
 rw [bK,e]
theorem dR.i64 {P:Program} {t:TypeId} (ht:P.underlying t=some (.int .i64)):dR P t ag.i64 cK:=fun _ _ _ _ _ _ _ _ _ h _=>by
 obtain ⟨n,rfl,_,hw⟩:=DataW.trod_int ht h;have:cK n:=by unfold cK;simpa [Lit.wf,IntKind.min,IntKind.max,IntKind.wrap,IntKind.bits,IntKind.signed] using hw
 exact ⟨n,⟨rfl,this⟩,this⟩
theorem dR.bool {P:Program} {t:TypeId} (ht:P.underlying t=some .bool):dR P t ag.bool pY:=fun _ _ _ _ _ _ _ _ _ h _=>by
 obtain ⟨n,rfl,_⟩:=DataW.trod_bool ht h;exact ⟨n,rfl,trivial⟩
theorem Xh (s:ByteArray):str s.data.toList=s:=by cases s;rfl
theorem dR.str {P:Program} {t:TypeId} (ht:P.underlying t=some .string):dR P t ag.str (fun s=>s.length≤140737488351232):=fun _ _ _ _ _ _ _ _ _ h hl=>by
 obtain ⟨s,rfl,rfl,hs⟩:=DataW.trod_string ht h;exact ⟨s.data.toList,⟨by rw [Xh],by unfold maxLen at hs;rw [Array.length_toList];exact Nat.le_trans hs (by decide)⟩,hl _ (by simp [DataW.weights])⟩
theorem Ht {α:Type} {p:Nat→α→Prop}:∀ {n:Nat} (_:∀ i,i<n→∃ x,p i x),∃ l:List α,l.length=n∧∀ i (hi:i<l.length),p i l[i]
 |0,_=>⟨[],rfl,fun i hi=>absurd hi (by simp)⟩
 |n+1,h=>by
  obtain ⟨l,h1,h2⟩:=Ht (n:=n) (fun i hi=>h i (by omega));obtain ⟨x,hx⟩:=h n (by omega);refine ⟨l++[x],by simp [h1],fun i hi=>?_⟩
  by_cases hi' :i<l.length
  ·rw [List.getElem_append_left hi'];exact h2 i hi'
  ·have:i=n:=by simp at hi;omega
   subst this;rw [List.getElem_append_right (by omega)];simpa using hx
theorem b5.Kv {α β:Type} {R:β→α→Prop}:∀ {bs:List β} {as:List α},bs.length=as.length→(∀ i (hb:i<bs.length) (ha:i<as.length),R bs[i] as[i])→b5 R bs as
 |[],[],_,_=>trivial
 |_::_,[],h,_=>by simp at h
 |[],_::_,h,_=>by simp at h
 |b::bs,a::as,h,hr=>⟨hr 0 (by simp) (by simp),b5.Kv (by simpa using h) fun i hb ha=>hr (i+1) (by simp;omega) (by simp;omega)⟩
theorem CV {α:Type} {k:Nat}:∀ {ak:List (List α)},(∀ c∈ak,c.length=k)→ak.flatten.length=ak.length*k
 |[],_=>by simp
 |c::ak,h=>by
  rw [List.flatten_cons,List.length_append,CV (fun d hd=>h d (by simp [hd])),h c (by simp)];simp [Nat.succ_mul];omega
theorem Ia {α:Type} {k:Nat} (hk:0<k):∀ {ak:List (List α)} (_:∀ c∈ak,c.length=k) (j:Nat),ak.flatten[j]?=(ak[j / k]?).bind fun c=>c[j % k]?
 |[],_,j=>by simp
 |c::ak,h,j=>by
  have hc:=h c (by simp)
  by_cases hj:j<k
  ·rw [List.flatten_cons,List.getElem?_append_left (by omega),Nat.div_eq_of_lt hj,Nat.mod_eq_of_lt hj];simp
  ·have hj' :k≤j:=by omega
   rw [List.flatten_cons,List.getElem?_append_right (by omega),hc,Ia hk (fun d hd=>h d (by simp [hd]))];have e1:j / k=(j - k) / k+1:=by rw [Nat.div_eq_sub_div hk hj']
   have e2:j % k=(j - k) % k:=by rw [Nat.mod_eq_sub_mod hj']
   rw [e1,e2];simp
theorem dR.slice {P:Program} {t e:TypeId} {α:Type} {T:ag α} {Q:α→Prop} (ho:dR P e T Q) (ht:P.underlying t=some (.slice e)) (hc:P.cellsOf e=T.k) (hy:0<P.bytesOf e) (hk:0<T.k):dR P t (ag.slice T) (sY Q):=fun H enc w base spare held fuel cs x h hlt=>by
 rcases DataW.trod_slice ht h with ⟨rfl,_⟩|⟨a,len,cap,elems,rest,n,_,rfl,rfl,hb,hl,hm,hlen,hel,_,_⟩
 ·exact ⟨[],⟨_,rfl,aj.nil⟩,by simp,by simp⟩
 have hw:len*P.bytesOf e≤reachBytes∧∀ n∈DataW.weightsAll P e (elems.map (·.1)),n≤reachBytes:=by
  unfold uf at hlt;simp only [DataW.weights,ht,List.length_map,List.mem_cons,List.mem_append] at hlt;exact ⟨Nat.le_trans (Nat.mul_le_mul_right _ (by omega)) (hlt _ (.inl rfl)),fun n hn=>hlt n (.inr (.inl hn))⟩
 have rY:len≤140737488351232:=by
  have:=Nat.le_trans (Nat.le_mul_of_pos_right len hy) hw.1;unfold reachBytes at this;omega
 have each:∀ i,i<len→∃ y:List Value × α,y.1.length=T.k∧(T.rel w.fr y.1 y.2∧Q y.2)∧∀ q,q<T.k→w.cell? ((a.add (i*T.k)).add q)=y.1[q]?:=by
  intro i hi
  have h1:=hel i hi;rw [List.getElem?_eq_getElem (by omega),hc,Option.bind_eq_some_iff] at h1;obtain ⟨ds,h2,h3⟩:=h1;obtain ⟨b,hb⟩:=ho _ enc w base spare held n ds _ h3 (by have h9:=JX hw.2 i (by simp;omega);rw [List.getElem_map] at h9;exact h9);obtain ⟨_,h4,h5⟩:=World.cells?_some h2;exact ⟨(ds,b),h4,hb,h5⟩
 obtain ⟨l,h1,h2⟩:=Ht each;have hQ:sY Q (l.map (·.2)):=by
  refine ⟨by simp;omega,fun y hy=>?_⟩;obtain ⟨z,hz,rfl⟩:=List.mem_map.1 hy;obtain ⟨i,hi,rfl⟩:=List.mem_iff_getElem.1 hz;exact (h2 i hi).2.1.2
 refine ⟨l.map (·.2),⟨_,rfl,l.map (·.1),?_,some a,cap,?_,?_,⟨?_,fun h=>by cases h⟩,?_,?_⟩,hQ⟩
 ·refine b5.Kv (by simp) fun i hb ha=>?_
  simp only [List.getElem_map];exact (h2 i (by simpa using hb)).2.1.1
 ·simp [h1]
 ·simp [h1];omega
 ·simpa [maxLen] using hm
 ·rw [CV (k:=T.k)]
  ·simp
  ·intro c hc
   obtain ⟨y,hy,rfl⟩:=List.mem_map.1 hc;obtain ⟨i,hi,rfl⟩:=List.mem_iff_getElem.1 hy;exact (h2 i hi).1
 ·intro j hj
  refine ⟨a,rfl,?_⟩;have hall:∀ c∈l.map (·.1),c.length=T.k:=by
   intro c hc
   obtain ⟨y,hy,rfl⟩:=List.mem_map.1 hc;obtain ⟨i,hi,rfl⟩:=List.mem_iff_getElem.1 hy;exact (h2 i hi).1
  rw [Ii,← List.getElem?_eq_getElem hj,Ia hk hall];have hj2:j<l.length*T.k:=by rw [CV hall] at hj;simpa using hj
  have hi:j / T.k<l.length:=by rw [Nat.div_lt_iff_lt_mul hk];exact hj2
  have hq:j % T.k<T.k:=Nat.mod_lt _ hk;have:=(h2 _ hi).2.2 _ hq;rw [Addr.add_add,show j / T.k*T.k+j % T.k=j from by rw [Nat.mul_comm];exact Nat.div_add_mod j T.k] at this;rw [this]
  simp [List.getElem?_eq_getElem hi]
theorem dR.arr {P:Program} {t:TypeId} {α:Type} {T:ag α} {Q:List α→Prop} (ho:dR P t (ag.slice T) Q) {H:Type} {enc:TypeId × Value→H} {w:World} {base:Nat} {spare:Nat→Bool} {held:Bool} {fuel:Nat} {v:Value} {x:DataW H × List MemPlace}
  (h:DataW.trod enc P w base spare held fuel t [v]=some x) (hl:uf P t x.1):∃ a,aj T w.fr v a∧Q a:=by
 obtain ⟨a,⟨u,h1,h2⟩,hq⟩:=ho _ enc w base spare held fuel _ x h hl
 cases h1
 exact ⟨a,h2,hq⟩
def h_ (P:Program) (fs:List Field) (off:Nat) {α:Type} (T:ag α) (Q:α→Prop):Prop :=
 ∀ (H:Type) (enc:TypeId × Value→H) (w:World) (base:Nat) (spare:Nat→Bool) (held:Bool) (fuel:Nat) (cs:List Value),
  (∀ f∈fs,∃ x,DataW.trod enc P w base spare held fuel f.type ((cs.drop f.offset).take (P.cellsOf f.type))=some x∧uf P f.type x.1)→cs.length=off+T.k→∃ a,T.rel w.fr (cs.drop off) a∧Q a
theorem h_.nil {P:Program} {off:Nat}:h_ P [] off ag.unit pY:=fun _ _ _ _ _ _ _ cs _ h=>⟨(),by show cs.drop off=[];rw [List.drop_eq_nil_of_le];simp [ag.unit] at h;omega,trivial⟩
theorem h_.cons {P:Program} {f:Field} {fs:List Field} {off:Nat} {α β:Type} {T:ag α} {kP:ag β} {Q:α→Prop} {R:β→Prop} (ho:f.offset=off) (hc:P.cellsOf f.type=T.k) (h1:dR P f.type T Q) (h2:h_ P fs (off+T.k) kP R):h_ P (f::fs) off (ag.prod T kP) (fun x=>Q x.1∧R x.2) :=
 fun H enc w base spare held fuel cs h hl=>by
  obtain ⟨x,hx,hx'⟩:=h f (by simp);rw [ho,hc] at hx;obtain ⟨a,ha,qf⟩:=h1 _ _ _ _ _ _ _ _ _ hx hx';obtain ⟨b,hb,U8⟩:=h2 _ enc w base spare held fuel cs (fun g hg=>h g (by simp [hg])) (by rw [hl];simp [ag.prod];omega);exact ⟨(a,b),⟨_,_,(by rw [← List.drop_drop,List.take_append_drop]:cs.drop off=(cs.drop off).take T.k++cs.drop (off+T.k)),ha,hb⟩,qf,U8⟩
theorem dR.struct {P:Program} {t:TypeId} {fs:List Field} {α:Type} {T:ag α} {Q:α→Prop} (ho:h_ P fs 0 T Q) (ht:P.underlying t=some (.struct fs.toArray)) (hc:P.cellsOf t=T.k):dR P t T Q:=fun H enc w base spare held fuel cs x h hlt=>by
 obtain ⟨xs,n,_,rfl,hl,hn,hf⟩:=DataW.trod_struct ht h;unfold uf at hlt;simp only [DataW.weights,ht] at hlt;have:=ho _ enc w base spare held n cs (fun f hf' =>by
  obtain ⟨i,hi,rfl⟩:=List.mem_iff_getElem.1 hf';have:=hf i fs[i] (by simp [hi]);have hi2:i<xs.length:=by simp at hn;omega
  rw [List.getElem?_eq_getElem hi2] at this;refine ⟨_,by simpa using this,?_⟩;have:=x4 hlt i (by simpa using hi) (by simpa using hi2)
  simpa using this) (by rw [hl,hc];simp)
 simpa using this
end Go.Sp
end
end
