/- Texts of this proof, one behind the other. -/
import Derived.Test.YtdjoggpacmpfnaaGreatDoorQSpDefer
import Derived.Lib.ConvBytes
import Derived.RangeFuncRecord
import Derived.ChangeArms
import Derived.DataReads
import GoSem.ClaimJoined
import Derived.Laws.Strings2
section
/- Texts of this proof, one behind the other. -/
section
/- Texts of this proof. -/
namespace Go.Sp
def aZ {β α:Type} (A:β→α→az):List β→List α→az
 |[],[]=>fun _=>True
 |b::bs,a::as=>fun h=>Sat [A b a,aZ A bs as] h
 |_,_=>fun _=>False
theorem Sat.two {A B:az} {m:Fr}:Sat [A,B] m↔∃ h1 h2:Fr,h1.ea h2∧h1.sub m∧h2.sub m∧A h1∧(∃ h3:Fr,h3.sub h2∧B h3):=by
 constructor
 ·rintro ⟨h1,h2,d,s1,s2,x,k1,k2,_,t1,_,y,_⟩
  exact ⟨h1,h2,d,s1,s2,x,k1,t1,y⟩
 ·rintro ⟨h1,h2,d,s1,s2,x,h3,t,y⟩
  exact ⟨h1,h2,d,s1,s2,x,h3,Fr.emp,Fr.e7 (Fr.eA _),t,Fr.dY _,y,trivial⟩
theorem aZ.snoc {β α:Type} {A:β→α→az} {b:β} {a:α}:∀ {bs:List β} {as:List α} {m:Fr},Sat [aZ A bs as,A b a] m→∃ h:Fr,h.sub m∧aZ A (bs++[b]) (as++[a]) h
 |[],[],m,h=>⟨m,Fr.bH _,by
  have h2:Sat [A b a] m:=h.tail';exact Sat.append (aa:=[A b a]) (ζ:=[aZ A [] []]) (Fr.e7 (Fr.eA _)) h2 ⟨Fr.emp,Fr.emp,Fr.eA _,Fr.dY _,Fr.dY _,trivial,trivial⟩ |>Sat.mono (Fr.iK (Fr.bH _) (Fr.dY _))⟩
 |[],_::_,_,h=>by obtain ⟨_,_,_,_,_,x,_⟩:=h;exact x.elim
 |_::_,[],_,h=>by obtain ⟨_,_,_,_,_,x,_⟩:=h;exact x.elim
 |b' ::bs,a' ::as,m,h=>by
  obtain ⟨h1,h2,d,s1,s2,x,y⟩:=h;have x' :Sat [A b' a',aZ A bs as] h1:=x;obtain ⟨k1,k2,kd,t1,t2,p,q⟩:=x';have hq:Sat [aZ A bs as,A b a] (k2.add h2):=Sat.append (aa:=[aZ A bs as]) (ζ:=[A b a]) (Fr.eG d t2 (Fr.bH _)) q y;obtain ⟨h3,u,z⟩:=aZ.snoc hq;refine ⟨m,Fr.bH _,?_⟩
  show Sat [A b' a',aZ A (bs++[b]) (as++[a])] m
  refine ⟨k1,k2.add h2,Fr.qs kd (Fr.eG d t1 (Fr.bH _)),Fr.bQ t1 s1,Fr.iK (Fr.bQ t2 s1) s2,p,h3,Fr.emp,Fr.e7 (Fr.eA _),u,Fr.dY _,z,trivial⟩
theorem aZ.sW {β α:Type} {A:β→α→az} {R:β→α→Prop} {k:Fr} (hA:∀ b a m,A b a m→m.sub k→R b a):∀ {bs:List β} {as:List α} {m:Fr},aZ A bs as m→m.sub k→cG R bs as
 |[],[],_,_,_=>trivial
 |[],_::_,_,h,_=>h.elim
 |_::_,[],_,h,_=>h.elim
 |b::bs,a::as,m,h,s=>by
  have h' :Sat [A b a,aZ A bs as] m:=h;obtain ⟨k1,k2,_,t1,t2,p,aI,_,_,u,_,q,_⟩:=h';exact ⟨hA b a k1 p (Fr.bQ t1 s),aZ.sW hA q (Fr.bQ u (Fr.bQ t2 s))⟩
abbrev nc {α:Type} (T:ag α) (e:TypeId) (vs:List Value) (xss:List (List α)):az:=aZ (ak T e) vs xss
section
variable {ro:Option Nat} {P:Program} {fn:Func} {n:Nat} {R:Ending→World→Prop} {k:List Item} {σ:List (Nat × Value)} {D:List Deferred} {g:bp} {aa ζ cL:List az} {ops:Array Oper} {L:List Nat}
theorem Sat.each {β α:Type} {A:β→α→az} {b:β} {a:α} {bs:List β} {as:List α} {m:Fr} (h:Sat (aZ A bs as::A b a::cL) m):Sat (aZ A (bs++[b]) (as++[a])::cL) m:=by
 obtain ⟨h1,h2,d,s1,s2,x,k1,k2,kd,t1,t2,y,z⟩:=h;obtain ⟨h3,u,w⟩:=aZ.snoc (Sat.append (aa:=[aZ A bs as]) (ζ:=[A b a]) (Fr.eG d (Fr.bH _) t1) ⟨h1,Fr.emp,Fr.e7 (Fr.eA _),Fr.bH _,Fr.dY _,x,trivial⟩ ⟨k1,Fr.emp,Fr.e7 (Fr.eA _),Fr.bH _,Fr.dY _,y,trivial⟩);exact ⟨h3,k2,Fr.eG (Fr.s5 (Fr.eG d (Fr.bH _) t2) kd) u (Fr.bH _),Fr.bQ u (Fr.iK s1 (Fr.bQ t1 s2)),Fr.bQ t2 s2,w,z⟩
theorem O.each {β α:Type} {A:β→α→az} {b:β} {a:α} {bs:List β} {as:List α} (s1:bA aa (aZ A bs as) ζ) (s2:bA ζ (A b a) cL) (h:O ro P fn n R ops L k σ D g (aZ A (bs++[b]) (as++[a])::cL)):O ro P fn n R ops L k σ D g aa :=
 O.eJ s1 (O.imp (aa:=aZ A bs as::ζ) (fun _ x=>Sat.each (Sat.g9 (fun _ y=>y) (fun _ y=>Sat.perm s2.perm y) x)) h)
theorem S.imp' {todo:List Item} (hs:∀ m,Sat aa m→Sat ζ m) (h:S ro P fn n R todo σ D g ζ):S ro P fn n R todo σ D g aa:=fun a w hf hd hw=>h a w hf hd (hw.imp hs)
theorem S.each {todo:List Item} {β α:Type} {A:β→α→az} {b:β} {a:α} {bs:List β} {as:List α} (s1:bA aa (aZ A bs as) ζ) (s2:bA ζ (A b a) cL) (h:S ro P fn n R todo σ D g (aZ A (bs++[b]) (as++[a])::cL)):S ro P fn n R todo σ D g aa :=
 S.eJ s1 (S.imp' (aa:=aZ A bs as::ζ) (fun _ x=>Sat.each (Sat.g9 (fun _ y=>y) (fun _ y=>Sat.perm s2.perm y) x)) h)
theorem ach {β α:Type} {A:β→α→az} {m:Fr} (h:Sat aa m):Sat (aZ A [] []::aa) m:=⟨Fr.emp,m,Fr.eA _,Fr.dY _,Fr.bH _,trivial,h⟩
theorem S.uG {todo:List Item} {β α:Type} (A:β→α→az) (h:S ro P fn n R todo σ D g (aZ A [] []::aa)):S ro P fn n R todo σ D g aa:=S.imp' (fun _=>ach) h
theorem Sat.rows {α:Type} {T:ag α} {e e' :TypeId} {v:Value} {vs:List Value} {xss:List (List α)} {m:Fr} (h:Sat [ak ag.val e v vs,nc T e' vs xss] m):av (ag.slice T) m v xss:=by
 obtain ⟨h1,h2,_,s1,s2,x,h3,_,_,t,_,y,_⟩:=h;exact (x.arr.mono s1).rows (aZ.sW (fun b a m' z s=>z.arr.mono s) y (Fr.bQ t s2))
theorem acj {α:Type} {T:ag α} {e e' :TypeId} {v:Value} {vs:List Value} {xss:List (List α)} (s1:bA aa (ak ag.val e v vs) ζ) (s2:bA ζ (nc T e' vs xss) cL) (m:Fr) (h:Sat aa m):Sat ((fun m=>av (ag.slice T) m v xss)::cL) m:=by
 obtain ⟨h1,h2,d,t1,t2,x,y⟩:=Sat.perm s1.perm h;obtain ⟨k1,k2,kd,u1,u2,p,q⟩:=Sat.perm s2.perm y;refine ⟨h1.add k1,k2,Fr.s5 (Fr.eG d (Fr.bH _) u2) kd,Fr.iK t1 (Fr.bQ u1 t2),Fr.bQ u2 t2,?_,q⟩;exact Sat.rows (Sat.append (aa:=[ak ag.val e v vs]) (ζ:=[nc T e' vs xss]) (Fr.eG d (Fr.bH _) u1) ⟨h1,Fr.emp,Fr.e7 (Fr.eA _),Fr.bH _,Fr.dY _,x,trivial⟩ ⟨k1,Fr.emp,Fr.e7 (Fr.eA _),Fr.bH _,Fr.dY _,p,trivial⟩)
theorem S.mW {nP b:Nat} {ty T:TypeId} {cs:List Value} (hr:fn.results=#[.cell nP ty]) (wq:∀ w,(isAgg ty).run P w=.ok true w) (hsz:(P.info? ty).map (·.size)=some cs.length) (hl:look σ nP=some (.pointer (some ⟨b,0,none⟩))) (hs:bA aa (obj b T cs) ζ)
  (h:∀ w,ax w g (obj b T cs::ζ)→R (.returned (.agg cs.toArray)) w):S none P fn n R (.code .ret::k) σ [] g aa:=by
 refine S.r6 fun a w hf hd hw=>?_;have hw' :=hw.eJ hs;refine ⟨.agg cs.toArray,?_,h w hw'⟩;have hc0:=run_loadCells_list (P:=P) w ⟨b,0,none⟩ cs fun j v hj=>by
  rw [add_lit];exact hw'.wL (by simpa using hj)
 have hl' :=hf.2 nP _ hl
 simp [results,hr,Array.getD_eq_getD_getElem?,hl',asAddr,loadVar,wq,run_sizeOf hsz,hc0]
theorem O.TL {α:Type} {T:ag α} {e e' :TypeId} {v:Value} {vs:List Value} {xss:List (List α)} (s1:bA aa (ak ag.val e v vs) ζ) (s2:bA ζ (nc T e' vs xss) cL) (h:∀ g' :bp,g.h.sub g'.h→(∀ w ζ,ax w g' ζ→ax w g ζ)→av (ag.slice T) g'.h v xss→O ro P fn n R ops L k σ D g' cL):O ro P fn n R ops L k σ D g aa :=
 O.imp (acj s1 s2) (O.TM bA.here h)
end
section
variable {ro:Option Nat} {P:Program} {σ:List (Nat × Value)} {g:bp} {aa ζ:List az} {fn:Func} {n:Nat} {R:Ending→World→Prop} {k:List Item} {D:List Deferred} {ops:Array Oper} {i d:Nat} {l:List Nat}
 {t e:TypeId} {x y z:Operand} {v:Value} {ka kb:IntKind} {sL m6:Int} {a b:Nat} {α:Type} {T:ag α} {xs:List α} {r:Fr}
theorem aj.NJ {f:FuncId} {args:Array Value} {h:Fr} {bs:List az} {Post:Ending→List az→Prop} (con:∀ m:Fr,Sat bs m→h.ea m→aj P f args (h.add m) aa Post) :
  aj P f args h (aa++bs) Post:=fun g hg w hw=>by
 obtain ⟨m,hm,hd,hw'⟩:=ax.CD (aa:=aa) (ζ:=bs) hw;have ny :h.ea m:=Fr.eG hd hg (Fr.bH _);exact (con m hm ny (g.add m) (Fr.iK (Fr.bQ hg (Fr.fi _ _)) (Fr.jw hd)) w hw').mono fun e w' ⟨au,x,y⟩=>⟨au,x,y.jo hd⟩
theorem O.s3 {f:FuncId} {xs:Array Operand} {ts:Array TypeId} {b9:List Value} {K' :Value→List az→Prop} {first cap:Array Value} (ho:cA ops i n σ d (.call ⟨.value x,xs,ts⟩)) (hx:aE σ x=some (.func (.func f) first cap)) (hc:ed P f=true)
  (hv:e8 σ xs.toList=some b9) {args:Array Value} (hargs:first++b9.toArray++cap=args) {bs:List az} (hb:lC aa bs ζ) (con:aj P f args g.h bs (aF K'))
  (h:∀ v au,K' v au →O ro P fn n R ops l k ((d,v)::σ) D g (au ++ζ)):O ro P fn n R ops (i::l) k σ D g aa :=
 fun a w hf hd hw=>O.call (ζ:=ζ) ho hx hc hv hargs con h a w hf hd (hw.perm hb.perm)
theorem eo.s3 {f:FuncId} {xs:Array Operand} {ts:Array TypeId} {b9:List Value} {K' :Value→List az→Prop} {first cap:Array Value} (ho:cA ops i n σ d (.call ⟨.value x,xs,ts⟩)) {bZ:Bool} (hd:fX bZ ops i l=true) (hx:aE σ x=some (.func (.func f) first cap)) (hc:ed P f=true)
  (hv:e8 σ xs.toList=some b9) {args:Array Value} (hargs:first++b9.toArray++cap=args) {bs:List az} (hb:lC aa bs ζ) (con:aj P f args g.h bs (aF K'))
  (h:∀ v au,K' v au →ah P fn n R ops k D g l ((d,v)::σ) (au ++ζ)):bt P fn n R ops k D g bZ (i::l) σ aa :=
 bt.perm hb.perm (eo.call (ζ:=ζ) ho hd hx hc hv hargs con h)
theorem ah.s3 {f:FuncId} {xs:Array Operand} {ts:Array TypeId} {b9:List Value} {K' :Value→List az→Prop} {first cap:Array Value} (ho:cA ops i n σ d (.call ⟨.value x,xs,ts⟩)) (hd:gG ops [i] l=true) (hx:aE σ x=some (.func (.func f) first cap)) (hc:ed P f=true) (hv:e8 σ xs.toList=some b9) {args:Array Value} (hargs:first++b9.toArray++cap=args) {bs:List az} (hb:lC aa bs ζ) (con:aj P f args g.h bs (aF K')) (h:∀ v au,K' v au →ah P fn n R ops k D g l ((d,v)::σ) (au ++ζ)):ah P fn n R ops k D g (i::l) σ aa:=eo.s3 (bZ:=false) ho (by simpa [fX] using hd) hx hc hv hargs hb con h
theorem ah.sliceTo (ho:cA ops i n σ d (.slice t x none (some y) none)) (ht:P.underlying t=some (.slice e)) (he:(P.info? e).map (·.size)=some T.k) (hx:aE σ x=some v) (hy:aE σ y=some (.int kb m6)) (hs:av T r v xs) (hz:m6=(b:Int)) (hb:b≤xs.length)
  (h:∀ u,av T r u (xs.take b)→ah P fn n R ops k D g l ((d,u)::σ) aa):ah P fn n R ops k D g (i::l) σ aa:=by
 subst hz;obtain ⟨u,h1,h2⟩:=Bj (g:=g) (a:=0) (b:=b) (kl:=.i64) ht he hx (lo:=none) (hi:=some y) (fun _ h=>nomatch h) (fun _=>rfl) (fun _ h=>by cases h;exact hy) (fun h=>nomatch h) hs (Nat.zero_le _) hb;exact .quiet ho rfl h1 (h u h2)
theorem ah.sliceFrom (ho:cA ops i n σ d (.slice t x (some y) none none)) (ht:P.underlying t=some (.slice e)) (he:(P.info? e).map (·.size)=some T.k) (hx:aE σ x=some v) (hy:aE σ y=some (.int ka sL)) (hs:av T r v xs) (hz:sL=(a:Int)) (ha:a≤xs.length)
  (h:∀ u,av T r u (xs.drop a)→ah P fn n R ops k D g l ((d,u)::σ) aa):ah P fn n R ops k D g (i::l) σ aa:=by
 subst hz;obtain ⟨u,h1,h2⟩:=Bj (g:=g) (a:=a) (b:=xs.length) (kh:=.i64) ht he hx (lo:=some y) (hi:=none) (fun _ h=>by cases h;exact hy) (fun h=>nomatch h) (fun _ h=>nomatch h) (fun _=>rfl) hs ha (Nat.le_refl _);exact .quiet ho rfl h1 (h u (by rw [List.take_length] at h2;exact h2))
theorem eo.jM {t T:TypeId} {x y:Operand} {b i:Nat} {cs news:List Value} {v:Value} {j:Nat} (ho:nN ops j=some (.store t x y)) {bZ:Bool} (hd:fX bZ ops j l=true) (hsz:(P.info? t).map (·.size)=some news.length) (hx:aE σ x=some (.pointer (some ⟨b,i,none⟩))) (hy:aE σ y=some v)
  (hv:v.cells.toList=news) (h1:news.all (·.oneCell')=true) (hs:bA aa (obj b T cs) ζ) (hl:i+news.length≤cs.length)
  (h:ah P fn n R ops k D g l σ (obj b T (cs.take i++news++cs.drop (i+news.length))::ζ)):bt P fn n R ops k D g bZ (j::l) σ aa :=
 bt.perm hs.perm (eo.o7 (aa:=obj b T cs::ζ) (au :=obj b T (cs.take i++news++cs.drop (i+news.length))::ζ) ho rfl hd (fun _=>.jM hsz hx hy hv h1 bA.here hl) h)
theorem ah.jM {t T:TypeId} {x y:Operand} {b i:Nat} {cs news:List Value} {v:Value} {j:Nat} (ho:nN ops j=some (.store t x y)) (hd:gG ops [j] l=true) (hsz:(P.info? t).map (·.size)=some news.length) (hx:aE σ x=some (.pointer (some ⟨b,i,none⟩))) (hy:aE σ y=some v) (hv:v.cells.toList=news) (h1:news.all (·.oneCell')=true) (hs:bA aa (obj b T cs) ζ) (hl:i+news.length≤cs.length) (h:ah P fn n R ops k D g l σ (obj b T (cs.take i++news++cs.drop (i+news.length))::ζ)):ah P fn n R ops k D g (j::l) σ aa:=eo.jM (bZ:=false) ho (by simpa [fX] using hd) hsz hx hy hv h1 hs hl h
theorem eo.rf {t T:TypeId} {x y:Operand} {b i:Nat} {cs:List Value} {v:Value} {j:Nat} (ho:nN ops j=some (.store t x y)) {bZ:Bool} (hd:fX bZ ops j l=true) (ht:gd P t=true) (hx:aE σ x=some (.pointer (some ⟨b,i,none⟩))) (hy:aE σ y=some v)
  (h1:v.oneCell' =true) (hs:bA aa (obj b T cs) ζ) (hl:i<cs.length)
  (h:ah P fn n R ops k D g l σ (obj b T (cs.set i v)::ζ)):bt P fn n R ops k D g bZ (j::l) σ aa :=
 bt.perm hs.perm (eo.o7 (aa:=obj b T cs::ζ) (au :=obj b T (cs.set i v)::ζ) ho rfl hd (fun _=>.rf ht hx hy h1 bA.here hl) h)
theorem ah.rf {t T:TypeId} {x y:Operand} {b i:Nat} {cs:List Value} {v:Value} {j:Nat} (ho:nN ops j=some (.store t x y)) (hd:gG ops [j] l=true) (ht:gd P t=true) (hx:aE σ x=some (.pointer (some ⟨b,i,none⟩))) (hy:aE σ y=some v) (h1:v.oneCell' =true) (hs:bA aa (obj b T cs) ζ) (hl:i<cs.length) (h:ah P fn n R ops k D g l σ (obj b T (cs.set i v)::ζ)):ah P fn n R ops k D g (j::l) σ aa:=eo.rf (bZ:=false) ho (by simpa [fX] using hd) ht hx hy h1 hs hl h
end
end Go.Sp
end
section
/- Texts of this proof, one behind the other. -/
section
/- Texts of this proof. -/
namespace Go.Sp
section
variable {P:Program} {σ:List (Nat × Value)} {g:bp} {aa ζ cL:List az}
theorem dj.Q4 {t e k dx:Nat} {z:List Value} {x y:Operand} {v u:Value} {m q:Nat} {cs news:List Value} (ht:P.underlying t=some (.slice e)) (he:cu P e k dx z) (hk:0<k)
  (hx:aE σ x=some v) (hy:aE σ y=some u) (hs:bA aa (Own v k e m cs) ζ) (hu:qm g.h u k q news) (h1:∀ c∈news,c.oneCell' =true) (hb:(m+q)*dx≤140737488355328) (h63:m+q≤9223372036854775807) :
  dj P (.call ⟨.builtin .append,#[x,y],#[t,t]⟩) σ g aa fun v' au =>(au =Own v' k e (m+q) (cs++news)::ζ∧∃ a cap,v=.slice a m cap∧v' =.slice a (m+q) cap∧m+q≤cap)∨au =Own v' k e (m+q) (cs++news)::Own v k e m cs::ζ :=
 fun o ρ w ho hkn hw=>by
  obtain ⟨i,ej,hi,hz,hsz,hby,mS,hzl⟩:=he;subst hsz hby mS;have hzs:ej.cells.size=i.size:=by simpa using hzl
  obtain ⟨a,cap,rfl,c1,c2,c3,bR⟩:=hu;have hw1:=hw.eJ hs
  cases a with
  |none =>
   have hq:news=[]:=by
    cases news with
    |nil=>rfl
    |cons c r=>obtain ⟨p,hp,_⟩:=bR 0 (by simp);cases hp
   subst hq;have Hu:q=0:=by
    have:q*i.size=0:=by rw [← c3];rfl
    rcases Nat.mul_eq_zero.1 this with h|h<;>omega
   subst Hu;have hv:∃ a cap,v=.slice a m cap∧m≤cap:=by
    obtain ⟨_,_,_,_,_,_,_,_,_,_,_,_,hA,_⟩:=hw1
    rcases hA with ⟨_,⟨rfl,rfl⟩|⟨b,cap,cur,rfl,_,h1,_⟩⟩
    ·exact ⟨none,0,rfl,Nat.le_refl _⟩
    ·exact ⟨_,cap,rfl,h1⟩
   obtain ⟨a,cp,rfl,hle⟩:=hv;refine ⟨.slice a m cp,w,_,.inl ⟨rfl,a,cp,rfl,rfl,hle⟩,oA ho ?_,by simpa using hw1⟩;rw [hkn x _ hx,hkn y _ hy]
   cases a<;>simp [Builtin.append_,run_underlying ht,sizeOf,typeInfo,hi,Builtin.lenOf,Builtin.firstCells,storeCells,hle]
  |some a =>
   have hnews:∀ j u,news[j]?=some u→w.cell? (a.add j)=some u:=fun j u hj=>by
    obtain ⟨hjl,rfl⟩:=List.getElem?_eq_some_iff.1 hj;obtain ⟨p,hp,hc⟩:=bR j hjl
    cases hp
    exact Fr.uC hw.ground hc
   have tq:=hkn x _ hx;have tr:=hkn y _ hy;have fresh:∀ (old:Nat),old<m+q→cs.length=m*i.size→ax (w.drew.alloc (.cells (cs.toArray++news.toArray++Builtin.zeroCells ej.cells (grownCap w (m+q) old e - (m+q))) e)) g
     (Own (.slice (some ⟨w.heap.size,0,none⟩) (m+q) (grownCap w (m+q) old e)) i.size e (m+q) (cs++news)::Own v i.size e m cs::ζ):=by
    intro old ho nx
    have hge:=grownCap_ge w (m+q) old e;have j4:=grownCap_le_maxLen w (m+q) old e (by simpa [maxLen] using h63);have hlen:(cs++news).length=(m+q)*i.size:=by rw [List.length_append,nx,c3,Nat.add_mul]
    refine ((hw1.drewN _ (Nat.le_add_right _ _)).alloc _).own hge (by simpa [maxLen] using j4) ?_ ?_
    ·simp only [Array.size_append,List.size_toArray,size_zeroCells,hzs,nx,c3,← Nat.add_mul]
     congr 1
     omega
    ·simp only [Array.toList_append,List.append_assoc]
     rw [← List.append_assoc,← hlen];exact List.take_left
   obtain ⟨hA,Gg⟩:cs.length=m*i.size∧((v=.slice none 0 0∧m=0)∨∃ b cap cur,v=.slice (some ⟨b,0,none⟩) m cap∧m≤cap∧cap≤9223372036854775807∧cur.size=cap*i.size∧cur.toList.take (m*i.size)=cs ∧
     ∃ fz,ur fz (cap*i.size)∧ax w g (kg b (.cells cur e fz)::ζ)):=by
    obtain ⟨p1,p2,p3,K,hd,s1,s2,k1,k2,kd,t1,t2,⟨hl,hA⟩,hr⟩:=hw1;refine ⟨hl,hA.imp id ?_⟩;rintro ⟨b,cap,cur,rfl,⟨fz,hbk,hz⟩,h1,h2,h3,h4⟩;exact ⟨b,cap,cur,rfl,h1,h2,h3,h4,fz,hz,p1,p2,p3,K,hd,s1,s2,k1,k2,kd,t1,t2,hbk,hr⟩
   rcases Gg with ⟨rfl,rfl⟩|⟨b,cp,cur,rfl,zW,s_,tc,rQ,fz,hfz,lK⟩
   ·have hcs:cs=[]:=List.eq_nil_of_length_eq_zero (by simpa using hA)
    subst hcs
    by_cases hq:q=0
    ·subst hq
     have hn:news=[]:=List.eq_nil_of_length_eq_zero (by simpa using c3);subst hn;refine ⟨.slice none 0 0,w,_,.inl ⟨rfl,none,0,rfl,rfl,Nat.le_refl _⟩,oA ho ?_,by simpa using hw1⟩;rw [tq,tr]
     simp [Builtin.append_,run_underlying ht,sizeOf,typeInfo,hi,Builtin.lenOf,Builtin.firstCells,loadCells,loadCellsFrom]
    ·have hr:=run_append_nil (P:=P) w t o.type e i ej ht hi hz a q cap news c3 hnews (by omega) (by omega) (by have hb:=hb;simp only [Nat.zero_add] at hb;omega)
     have hf:=fresh 0 (by omega) (by simp);simp only [Nat.zero_add,List.nil_append,Array.empty_append] at hf ⊢;exact ⟨_,_,_,.inr rfl,oA ho (by rw [tq,tr];exact hr),hf⟩
   ·by_cases hroom:m+q≤cp
    ·have hfit:m*i.size+news.length≤cur.size:=by rw [c3,tc,← Nat.add_mul];exact Nat.mul_le_mul_right _ hroom
     have hr:=Pa (P:=P) w t o.type e i ht hi b m cp cur lK.block (by rw [tc];exact hfz) a q cap news c3 hnews h1 hroom hfit;refine ⟨_,_,_,.inl ⟨rfl,_,_,rfl,rfl,hroom⟩,oA ho (by rw [tq,tr];exact hr),lK.setRow.wO hfz hroom s_ ?_ ?_⟩
     ·simp only [List.size_toArray,List.length_append,List.length_take,List.length_drop,Array.length_toList]
      omega
     ·have hlen:(cs++news).length=(m+q)*i.size:=by rw [List.length_append,hA,c3,Nat.add_mul]
      rw [rQ,← hlen];exact List.take_left
    ·have holds:∀ j u,cs[j]?=some u→w.cell? ((⟨b,0,none⟩:Addr).add j)=some u:=fun j u hj=>by
      have hb0:=lK.block;rw [add_lit,Nat.zero_add];have hjl:=(List.getElem?_eq_some_iff.1 hj).1;rw [← rQ,List.getElem?_take_of_lt (by omega)] at hj
      simpa [World.cell?,hb0] using hj
     have hr:=run_append_grow (P:=P) w t o.type e i ej ht hi hz ⟨b,0,none⟩ m cp cs hA holds a q cap news c3 hnews (by omega) (by omega) (growslice_fits (by omega) hb);exact ⟨_,_,_,.inr rfl,oA ho (by rw [tq,tr];exact hr),fresh cp (by omega) hA⟩
def iX {α:Type} (T:ag α) (e:TypeId) (v:Value) (xs:List α) (u:Value) (ys:List α):az:=fun h =>
 (∃ a c,v=.slice a xs.length c∧u=.slice a (xs.length+ys.length) c∧ak T e u (xs++ys) h)∨Sat [ak T e u (xs++ys),ak T e v xs] h
theorem iX.start {α:Type} {T:ag α} {e:TypeId} {v:Value} {xs:List α} {h:Fr} (x:ak T e v xs h):iX T e v xs v [] h:=by
 obtain ⟨a,c,hv⟩:=x.shape;exact .inl ⟨a,c,hv,by simpa using hv,by simpa using x⟩
theorem ak.take {α:Type} {T:ag α} {e:TypeId} {a:Option Addr} {n m c:Nat} {xs ys:List α} {h:Fr} (hn:n=xs.length) (x:ak T e (.slice a m c) (xs++ys) h):ak T e (.slice a n c) xs h:=by
 subst hn;obtain ⟨aG,h1,h2,h3⟩:=x;have hl:aG.length=xs.length+ys.length:=by rw [h1.length];simp
 have ht:=h1.take xs.length;rw [List.take_left'] at ht
 ·refine ⟨aG.take xs.length,ht,?_,?_⟩
  ·rw [← h1.x2,List.length_take,h2,List.length_append];exact Nat.min_eq_left (Nat.mul_le_mul_right _ (by omega))
  ·rcases h3 with ⟨h4,h5⟩|⟨b,cap,cur,h4,h5,h6,h7,h8,h9⟩
   ·cases h4
    simp at h5
    exact .inl ⟨by rw [h5.1];rfl,by rw [h5.1];rfl⟩
   ·cases h4
    refine .inr ⟨b,c,cur,rfl,h5,?_,h7,h8,?_⟩
    ·rw [List.length_append] at h6;omega
    ·rw [← h1.x2,← h9,List.take_take,List.length_append,Nat.min_eq_left (Nat.mul_le_mul_right _ (by omega))]
 ·rfl
theorem iX.own {α:Type} {T:ag α} {e:TypeId} {v u:Value} {xs ys:List α} {h:Fr} (x:iX T e v xs u ys h):∃ h' :Fr,h'.sub h∧ak T e v xs h' :=by
 rcases x with ⟨a,c,rfl,rfl,x⟩|⟨_,_,_,_,s2,_,_,_,_,t1,_,y,_⟩
 ·exact ⟨h,Fr.bH _,x.take rfl⟩
 ·exact ⟨_,Fr.bQ t1 s2,y⟩
theorem iX.arr {α:Type} {T:ag α} {e:TypeId} {v u:Value} {xs ys:List α} {h:Fr} (x:iX T e v xs u ys h):av T h v xs∧av T h u (xs++ys):=by
 rcases x with ⟨a,c,rfl,rfl,x⟩|⟨_,_,_,s1,s2,x,_,_,_,t1,_,y,_⟩
 ·exact ⟨(x.take rfl).arr,x.arr⟩
 ·exact ⟨y.arr.mono (Fr.bQ t1 s2),x.arr.mono s1⟩
theorem iX.shape {α:Type} {T:ag α} {e:TypeId} {v u:Value} {xs ys:List α} {h:Fr} (x:iX T e v xs u ys h):∃ a c,u=.slice a (xs.length+ys.length) c:=by
 obtain ⟨a,c,h⟩:=x.arr.2.shape;exact ⟨a,c,by simpa using h⟩
theorem dj.K3 {α:Type} {T:ag α} {t e dx:Nat} {z:List Value} {x y:Operand} {v u q:Value} {xs ys zs:List α} (hT:T.Pure) (ht:P.underlying t=some (.slice e)) (he:cu P e T.k dx z) (hk:0<T.k) (hx:aE σ x=some u) (hy:aE σ y=some q)
  (hs:bA aa (iX T e v xs u ys) ζ) (hu:av T g.h q zs) (hb:(xs.length+ys.length+zs.length)*dx≤140737488355328) (h63:xs.length+ys.length+zs.length≤9223372036854775807) :
  dj P (.call ⟨.builtin .append,#[x,y],#[t,t]⟩) σ g aa fun v' au =>∃ a c,v' =.slice a (xs.length+ys.length+zs.length) c∧au =iX T e v xs v' (ys++zs)::ζ:=by
 intro o ρ w h1 h2 h3
 have hw:=h3.eJ hs;obtain ⟨p1,p2,p3,K,hd,s1,s2,k1,k2,kd,t1,t2,M3,hr⟩:=hw;obtain ⟨cl,hda,iP⟩:=hu;have fin:∀ {w' :World} {v' :Value},ax w' g (iX T e v xs v' (ys++zs)::ζ)→∃ a c,v' =.slice a (xs.length+ys.length+zs.length) c:=by
  intro w' v' hh
  obtain ⟨_,_,_,_,_,_,_,_,_,_,_,_,hA,_⟩:=hh;obtain ⟨a,c,h⟩:=hA.shape;exact ⟨a,c,by rw [h];simp [Nat.add_assoc]⟩
 rcases M3 with ⟨a,c,rfl,rfl,⟨aG,ha,hown⟩⟩|⟨m1,m2,md,r1,r2,⟨aG,ha,hown⟩,uZ,YU,md',gV,qZ,hv,_⟩
 ·have hw' :ax w g (Own (.slice a (xs.length+ys.length) c) T.k e (xs++ys).length aG.flatten::ζ):=⟨p1,p2,p3,K,hd,s1,s2,k1,k2,kd,t1,t2,hown,hr⟩
  obtain ⟨v',w',au,jJ,hrun,hh⟩:=dj.Q4 (g:=g) ht he hk hx hy .here iP (cG.one hda) (by rw [List.length_append];exact hb) (by rw [List.length_append];exact h63) o ρ w h1 h2 hw'
  rcases jJ with ⟨rfl,a',cap,hv,rfl,hcap⟩|rfl
  ·have oZ :ax w' g (iX T e (.slice a xs.length c) xs (.slice a' ((xs++ys).length+zs.length) cap) (ys++zs)::ζ):=hh.imp fun _=>Sat.g9 (fun m q=>.inl ⟨a,c,rfl,by injection hv with h8 h9 h10;subst h8 h10;simp [Nat.add_assoc],by
    rw [← List.append_assoc];exact ak.of (aG:=aG++cl) (ha.append (hda.imp fun _ _ q=>hT _ _ _ q)) (by simp [Nat.add_assoc]) (by simp) rfl m q⟩) fun _ q=>q
   exact ⟨_,w',_,⟨a',cap,by simp,rfl⟩,hrun,oZ⟩
  ·have oZ :ax w' g (iX T e (.slice a xs.length c) xs v' (ys++zs)::ζ):=by
    refine hh.imp fun m hm=>?_;obtain ⟨n1,n2,nd,u1,u2,q1,eC,fy,AP,sk,wZ,bg,ei⟩:=hm;refine ⟨n1.add eC,fy,Fr.s5 (Fr.eG nd (Fr.bH _) wZ) AP,Fr.iK u1 (Fr.bQ sk u2),Fr.bQ wZ u2,.inr ?_,ei⟩;refine ⟨n1,eC,Fr.eG nd (Fr.bH _) sk,Fr.fi _ _,Fr.jw (Fr.eG nd (Fr.bH _) sk),?_,eC,Fr.emp,Fr.e7 (Fr.eA _),Fr.bH _,Fr.dY _,?_,trivial⟩
    ·rw [← List.append_assoc];exact ak.of (aG:=aG++cl) (ha.append (hda.imp fun _ _ q=>hT _ _ _ q)) (by simp [Nat.add_assoc]) (by simp) rfl _ q1
    ·exact ak.take rfl (ys:=ys) (m:=xs.length+ys.length) ⟨aG,ha,bg⟩
   obtain ⟨a',c',fh⟩:=fin oZ;exact ⟨v',w',_,⟨a',c',fh,rfl⟩,hrun,oZ⟩
 ·have hw' :ax w g (Own u T.k e (xs++ys).length aG.flatten::ak T e v xs::ζ) :=
   ⟨p1,p2,p3,K,hd,s1,s2,m1,uZ.add k2,Fr.qs (Fr.eG md (Fr.bH _) gV) (Fr.eG kd r1 (Fr.bH _)),Fr.bQ r1 t1,Fr.iK (Fr.bQ gV (Fr.bQ r2 t1)) t2,hown,
    uZ,k2,Fr.eG kd (Fr.bQ gV r2) (Fr.bH _),Fr.fi _ _,Fr.jw (Fr.eG kd (Fr.bQ gV r2) (Fr.bH _)),hv,hr⟩
  obtain ⟨v',w',au,jJ,hrun,hh⟩:=dj.append (g:=g) ht he hk hx hy .here iP (cG.one hda) (by rw [List.length_append];exact hb) (by rw [List.length_append];exact h63) o ρ w h1 h2 hw';subst jJ;have oZ :ax w' g (iX T e v xs v' (ys++zs)::ζ):=by
   refine hh.imp fun m hm=>?_;obtain ⟨n1,n2,nd,u1,u2,q1,eC,fy,AP,sk,wZ,bg,ei⟩:=hm;refine ⟨n1.add eC,fy,Fr.s5 (Fr.eG nd (Fr.bH _) wZ) AP,Fr.iK u1 (Fr.bQ sk u2),Fr.bQ wZ u2,.inr ?_,ei⟩;refine ⟨n1,eC,Fr.eG nd (Fr.bH _) sk,Fr.fi _ _,Fr.jw (Fr.eG nd (Fr.bH _) sk),?_,eC,Fr.emp,Fr.e7 (Fr.eA _),Fr.bH _,Fr.dY _,bg,trivial⟩;rw [← List.append_assoc];exact ak.of (aG:=aG++cl) (ha.append (hda.imp fun _ _ q=>hT _ _ _ q)) (by simp [Nat.add_assoc]) (by simp) rfl _ q1
  obtain ⟨a',c',fh⟩:=fin oZ;exact ⟨v',w',_,⟨a',c',fh,rfl⟩,hrun,oZ⟩
end
end Go.Sp
end
section
/- Texts of this proof, one behind the other. -/
section
/- Texts of this proof. -/
namespace Go.Sp
theorem aZ.len {β α:Type} {A:β→α→az}:∀ {bs:List β} {as:List α} {h:Fr},aZ A bs as h→bs.length=as.length
 |[],[],_,_=>rfl
 |[],_::_,_,h=>h.elim
 |_::_,[],_,h=>h.elim
 |_::_,_::_,_,h=>by
  have h' :Sat [_,aZ _ _ _] _:=h;obtain ⟨_,_,_,_,_,_,_,_,_,_,_,q,_⟩:=h'
  simp [aZ.len q]
theorem aZ.at {β α:Type} {A:β→α→az}:∀ {bs:List β} {as:List α} (k:Nat) (hb:k<bs.length) (ha:k<as.length) {h:Fr},aZ A bs as h→Sat [A bs[k] as[k],aZ A (bs.eraseIdx k) (as.eraseIdx k)] h
 |_::_,_::_,0,_,_,_,h=>h
 |b::bs,a::as,k+1,hb,ha,m,h=>by
  have h' :Sat [A b a,aZ A bs as] m:=h;obtain ⟨k1,k2,kd,t1,t2,p,aI,fo,Nq,u1,u2,q,_⟩:=h';obtain ⟨n1,n2,nd,v1,v2,x,eC,fy,AP,w1,w2,y,_⟩:=aZ.at k (by simpa using hb) (by simpa using ha) q;refine ⟨n1,k1.add n2,?_,Fr.bQ v1 (Fr.bQ u1 t2),Fr.iK t1 (Fr.bQ v2 (Fr.bQ u1 t2)),x,k1.add n2,Fr.emp,Fr.e7 (Fr.eA _),Fr.bH _,Fr.dY _,?_,trivial⟩
  ·exact Fr.qs (Fr.e7 (Fr.eG kd (Fr.bH _) (Fr.bQ v1 u1))) nd
  ·show Sat [A b a,aZ A (bs.eraseIdx k) (as.eraseIdx k)] _
   have d:k1.ea n2:=Fr.eG kd (Fr.bH _) (Fr.bQ v2 u1);exact ⟨k1,n2,d,Fr.fi _ _,Fr.jw d,p,eC,Fr.emp,Fr.e7 (Fr.eA _),w1,Fr.dY _,y,trivial⟩
theorem aZ.put {β α:Type} {A:β→α→az} {a' :α}:∀ {bs:List β} {as:List α} (k:Nat) (hb:k<bs.length) (_:k<as.length) {h:Fr},Sat [A bs[k] a',aZ A (bs.eraseIdx k) (as.eraseIdx k)] h→aZ A bs (as.set k a') h
 |_::_,_::_,0,_,_,_,h=>h
 |b::bs,a::as,k+1,hb,ha,m,h=>by
  obtain ⟨n1,n2,nd,v1,v2,x,eC,fy,AP,w1,w2,y,_⟩:=h;have y' :Sat [A b a,aZ A (bs.eraseIdx k) (as.eraseIdx k)] eC:=y;obtain ⟨k1,k2,kd,t1,t2,p,aI,fo,Nq,u1,u2,q,_⟩:=y'
  show Sat [A b a,aZ A bs (as.set k a')] m
  have d1:k1.ea n1:=Fr.e7 (Fr.eG nd (Fr.bH _) (Fr.bQ t1 w1));have d2:n1.ea aI:=Fr.eG nd (Fr.bH _) (Fr.bQ u1 (Fr.bQ t2 w1));refine ⟨k1,n1.add aI,Fr.qs d1 (Fr.eG kd (Fr.bH _) u1),Fr.bQ t1 (Fr.bQ w1 v2),Fr.iK v1 (Fr.bQ u1 (Fr.bQ t2 (Fr.bQ w1 v2))),p,n1.add aI,Fr.emp,Fr.e7 (Fr.eA _),Fr.bH _,Fr.dY _,?_,trivial⟩;exact aZ.put k (by simpa using hb) (by simpa using ha) ⟨n1,aI,d2,Fr.fi _ _,Fr.jw d2,x,aI,Fr.emp,Fr.e7 (Fr.eA _),Fr.bH _,Fr.dY _,q,trivial⟩
theorem Sat.adA {A B:az} {cL:List az} {m h1 h2:Fr} (x:Sat [A,B] h1) (y:Sat cL h2) (d:h1.ea h2) (s1:h1.sub m) (s2:h2.sub m):Sat (A::B::cL) m :=
 Sat.mono (Fr.iK s1 s2) (Sat.append (aa:=[A,B]) (ζ:=cL) d x y)
theorem Sat.H7 {A B C:az} {cL:List az} (hs:∀ m,Sat [A,B] m→C m):∀ {m:Fr},Sat (A::B::cL) m→Sat (C::cL) m:=by
 rintro m ⟨h1,h2,d,s1,s2,x,k1,k2,kd,t1,t2,y,z⟩;refine ⟨h1.add k1,k2,Fr.s5 (Fr.eG d (Fr.bH _) t2) kd,Fr.iK s1 (Fr.bQ t1 s2),Fr.bQ t2 s2,hs _ ?_,z⟩;have d2:h1.ea k1:=Fr.eG d (Fr.bH _) t1;exact ⟨h1,k1,d2,Fr.fi _ _,Fr.jw d2,x,k1,Fr.emp,Fr.e7 (Fr.eA _),Fr.bH _,Fr.dY _,y,trivial⟩
theorem Sat.OD {A B C:az} {cL:List az} (hs:∀ m,C m→Sat [A,B] m):∀ {m:Fr},Sat (C::cL) m→Sat (A::B::cL) m:=by
 rintro m ⟨h1,h2,d,s1,s2,x,y⟩;exact Sat.adA (hs _ x) y d s1 s2
section
variable {ro:Option Nat} {P:Program} {fn:Func} {n:Nat} {R:Ending→World→Prop} {k:List Item} {σ:List (Nat × Value)} {D:List Deferred} {g:bp} {aa ζ cL:List az} {ops:Array Oper} {L:List Nat} {β α:Type} {A:β→α→az} {todo:List Item}
theorem S.Sl {bs:List β} {as:List α} (j:Nat) (hb:j<bs.length) (ha:j<as.length) (s:bA aa (aZ A bs as) ζ) (h:S ro P fn n R todo σ D g (A bs[j] as[j]::aZ A (bs.eraseIdx j) (as.eraseIdx j)::ζ)):S ro P fn n R todo σ D g aa :=
 S.eJ s (S.imp' (aa:=aZ A bs as::ζ) (fun _=>Sat.OD fun _ x=>aZ.at j hb ha x) h)
theorem S.Sm {bs:List β} {as:List α} {a' :α} (j:Nat) (hb:j<bs.length) (ha:j<as.length) (s1:bA aa (A bs[j] a') ζ) (s2:bA ζ (aZ A (bs.eraseIdx j) (as.eraseIdx j)) cL) (h:S ro P fn n R todo σ D g (aZ A bs (as.set j a')::cL)):S ro P fn n R todo σ D g aa :=
 S.eJ s1 (S.imp' (aa:=A bs[j] a' ::ζ) (fun _ x=>Sat.H7 (fun _ y=>aZ.put j hb ha y) (Sat.g9 (fun _ y=>y) (fun _ y=>Sat.perm s2.perm y) x)) h)
theorem S.LC {b:β} {a:α} {bs:List β} {as:List α} (s:bA aa (aZ A (b::bs) (a::as)) ζ) (h:S ro P fn n R todo σ D g (A b a::aZ A bs as::ζ)):S ro P fn n R todo σ D g aa :=
 S.eJ s (S.imp' (aa:=aZ A (b::bs) (a::as)::ζ) (fun _=>Sat.OD fun _ x=>x) h)
theorem S.conv {B C:az} (s:bA aa B ζ) (hc:∀ m,B m→∃ h:Fr,h.sub m∧C h) (h:S ro P fn n R todo σ D g (C::ζ)):S ro P fn n R todo σ D g aa :=
 S.eJ s (S.imp' (aa:=B::ζ) (ζ:=C::ζ) (fun _ ⟨_,h2,d,s1,s2,x,y⟩=>let ⟨h3,u,z⟩:=hc _ x;⟨h3,h2,Fr.eG d u (Fr.bH _),Fr.bQ u s1,s2,z,y⟩) h)
theorem S.P8 {T:ag α} {e:TypeId} {v:Value} {xs:List α} (s:bA aa (ak T e v xs) ζ) (h:S ro P fn n R todo σ D g (iX T e v xs v []::ζ)):S ro P fn n R todo σ D g aa:=S.conv s (fun m x=>⟨m,Fr.bH _,iX.start x⟩) h
theorem S.nu {B:az} {p:Prop} (s:bA aa B ζ) (hs:∀ m,B m→p) (h:p→S ro P fn n R todo σ D g aa):S ro P fn n R todo σ D g aa :=
 fun a w hf hd hw=>by
  obtain ⟨_,_,_,_,_,_,_,_,_,_,_,_,hB,_⟩:=hw.eJ s;exact h (hs _ hB) a w hf hd hw
end
end Go.Sp
end
section
/- Texts of this proof, one behind the other. -/
section
/- Texts of this proof. -/
namespace Go.Sp
theorem Rn {h:Fr} {k m b cap:Nat} {T:TypeId} {fz:Nat × Nat} {cur:Array Value} {cs:List Value} (hb:h b=some (.cells cur T fz)) (h1:m≤cap) (h2:cap≤9223372036854775807) (h3:cur.size=cap*k) (h4:cur.toList.take (m*k)=cs) :
  qm h (.slice (some ⟨b,0,none⟩) m cap) k m cs:=by
 have hl:cs.length=m*k:=by
  rw [← h4,List.length_take,Array.length_toList,h3,Nat.min_eq_left (Nat.mul_le_mul_right _ h1)]
 refine ⟨some ⟨b,0,none⟩,cap,rfl,h1,⟨h2,fun h=>by cases h⟩,hl,fun j hj=>⟨_,rfl,?_⟩⟩;rw [add_lit];subst h4;have hj' :j<cur.size:=by simp at hj;omega
 simp [Fr.cell,hb,hj']
section
variable {P:Program} {σ:List (Nat × Value)} {g:bp} {aa ζ:List az} {t e:TypeId} {x:Operand}
theorem Pb (P:Program) (w:World) (f:Value→ByteArray→Sem (ForInStep ByteArray)) (hf:∀ (b:UInt8) s,f (aT b) s=.pure (.yield (s.push b))):∀ (xs:List UInt8) (s:ByteArray),
  (forIn (xs.map aT) s f:Sem ByteArray).run P w=.ok (⟨s.data++xs.toArray⟩) w
 |[],s=>by simp [forIn]
 |b::xs,s=>by
  have:=Pb P w f hf xs (s.push b);rw [List.map_cons,List.forIn_cons,hf];simp only [Sem.run_bind,Sem.run,Result.andThen_ok];rw [this];simp
theorem aK.toStr {v:Value} {xs:List UInt8} (ht:P.underlying t=some (.slice e)) (he:P.underlying e=some (.int .u8)) {t2:TypeId} (lJ:P.underlying t2=some .string) (hx:aE σ x=some v) (hs:av ag.u8 g.h v xs) :
  aK P (.convert t t2 x) σ g aa (.string (str xs)) aa :=
 fun o ρ w ho hk hw=>by
  refine ⟨w,?_,hw⟩;obtain ⟨aG,ha,a,cap,rfl,h1,h2,h3,h4⟩:=hs
  cases a with
  |none =>
   obtain ⟨rfl,_⟩:=av.Od (T:=ag.u8) (xs:=xs) (by decide) ⟨aG,ha,none,cap,rfl,h1,h2,h3,h4⟩
   simp [execOp,ho,hk x _ hx,convert,run_underlying ht,run_underlying he,run_underlying lJ,Conv.bytesToString]
   rfl
  |some a =>
   have hcs:aG.flatten=xs.map aT:=by
    clear h1 h2 h3 h4 hx
    induction aG generalizing xs with
    |nil=>cases xs with
     |nil=>rfl
     |cons _ _=>exact ha.elim
    |cons c aG ih=>cases xs with
     |nil=>exact ha.elim
     |cons b xs=>rw [List.flatten_cons,ih ha.2,show c=[aT b] from ha.1];rfl
   have hr:=run_loadCells_list (P:=P) w a aG.flatten fun j v hj=>by
    obtain ⟨hj',rfl⟩:=List.getElem?_eq_some_iff.1 hj;obtain ⟨p,hp,hc⟩:=h4 j hj'
    cases hp
    exact Fr.uC hw.ground hc
   have hlen:aG.flatten.length=xs.length:=by rw [hcs];simp
   rw [hlen] at hr
   simp [execOp,ho,hk x _ hx,convert,run_underlying ht,run_underlying he,run_underlying lJ,Conv.bytesToString,hr]
   rw [hcs,Pb P w _ (fun b s=>by simp [aT];rfl)];have e0:(⟨ByteArray.empty.data++xs.toArray⟩:ByteArray)=str xs:=by
    show (⟨#[]++xs.toArray⟩:ByteArray)=_
    simp [str]
   rw [e0];rfl
end
end Go.Sp
end
section
/- Texts of this proof. -/
namespace Go.Sp
def u64 (n:Int):Nat:=(n % 18446744073709551616).toNat
def jh (n:Int) (i:Nat):UInt8:=UInt8.ofNat (u64 n / 256 ^ i)
def be (n:Int):List UInt8:=[jh n 7,jh n 6,jh n 5,jh n 4,jh n 3,jh n 2,jh n 1,jh n 0]
@[simp] theorem ga (n:Int):(be n).length=8:=rfl
theorem adC (n:Int):u64 n<18446744073709551616:=by unfold u64;omega
theorem uj (n:Int):IntKind.u64.wrap n=(u64 n:Int):=by
 have:IntKind.u64.wrap n=n % 18446744073709551616:=by simp [IntKind.wrap,IntKind.bits,IntKind.signed]
 rw [this];unfold u64;omega
theorem Ql (n:Int):IntKind.u8.wrap n=n % 256:=by simp [IntKind.wrap,IntKind.bits,IntKind.signed]
theorem JU (n:Int) (i:Nat) (h:i<8) (z:Int) (hz:z=8*(i:Int)):IntKind.u8.wrap ((IntKind.u64.wrap n).fdiv (2 ^ min z.toNat IntKind.u64.bits))=((jh n i).toNat:Int):=by
 subst hz;have e1:min (8*(i:Int)).toNat IntKind.u64.bits=8*i:=by simp [IntKind.bits];omega
 rw [e1,uj,Ql];have e2:((2:Int) ^ (8*i))=((256 ^ i:Nat):Int):=by
  rw [Int.pow_mul,Int.natCast_pow];rfl
 rw [e2];have cZ:((u64 n:Nat):Int).fdiv ((256 ^ i:Nat):Int)=((u64 n / 256 ^ i:Nat):Int):=by
  rw [Int.fdiv_eq_ediv_of_nonneg _ (Int.natCast_nonneg _)];rfl
 rw [cZ];unfold jh;have:(UInt8.ofNat (u64 n / 256 ^ i)).toNat=u64 n / 256 ^ i % 256:=by simp
 rw [this];omega
def kH (xs:List UInt8):Nat:=xs.foldl (fun n c=>n*256+c.toNat) 0
theorem Rh (xs:List UInt8) (c:UInt8):kH (xs++[c])=kH xs*256+c.toNat:=by simp [kH]
theorem OE (n:Nat):256 ^ (n+1)=256 ^ n*256:=Nat.pow_succ ..
theorem K9 (xs:List UInt8) (i:Nat) (h:i<xs.length):kH (xs.take (i+1))=kH (xs.take i)*256+xs[i].toNat:=by
 rw [List.take_succ_eq_append_getElem h,Rh]
theorem Fa (xs:List UInt8) (i:Nat):kH (xs.take i)<256 ^ i:=by
 induction i with
 |zero=>simp [kH]
 |succ i ih =>
  by_cases h:i<xs.length
  ·rw [K9 xs i h,OE]
   have:=xs[i].toNat_lt
   omega
  ·have e:xs.take (i+1)=xs.take i:=by rw [List.take_of_length_le (by omega),List.take_of_length_le (by omega)]
   rw [e,OE];omega
theorem Rg (xs:List UInt8) (i:Nat) (hi:i<8):kH (xs.take i)<72057594037927936 :=
 Nat.lt_of_lt_of_le (Fa xs i) (Nat.le_trans (Nat.pow_le_pow_right (by decide) (show i≤7 by omega)) (by decide))
theorem ZP (n:Nat) (c:UInt8) (hn:n<72057594037927936) :
  bitsOf .or .u64 (IntKind.u64.wrap ((n:Int)*2 ^ min (8:Int).toNat IntKind.u64.bits)) (IntKind.u64.wrap (c.toNat:Int))=((n*256+c.toNat:Nat):Int):=by
 have hc:=c.toNat_lt;have e0:((n:Int)*2 ^ min (8:Int).toNat IntKind.u64.bits)=((n*256:Nat):Int):=by simp [IntKind.bits]
 have w:∀ k:Nat,k<18446744073709551616→IntKind.u64.wrap (k:Int)=k:=fun k h=>by rw [uj];unfold u64;omega
 rw [e0, w _ (by omega), w _ (by omega)];have e1 : (n * 256) ||| c.toNat = n * 256 + c.toNat := by
  have:=Nat.shiftLeft_add_eq_or_of_lt (b:=c.toNat) (i:=8) (by omega) n;rw [Nat.shiftLeft_eq] at this;exact this.symm
 have e2:∀ k:Nat,k<18446744073709551616→(BitVec.ofInt IntKind.u64.bits (k:Int)).toNat=k:=fun k h=>by rw [BitVec.toNat_ofInt];simp only [IntKind.bits];omega
 simp only [bitsOf,BitVec.toNat_or];rw [e2 _ (by omega),e2 _ (by omega),e1,w _ (by omega)]
def p9 (n:Nat):Int:=if n<9223372036854775808 then n else n - 18446744073709551616
theorem Qk (n:Nat) (h:n<18446744073709551616):IntKind.i64.wrap (n:Int)=p9 n:=by
 rw [IntKind.wrap_i64];unfold p9;split<;>omega
theorem ab3 (n:Nat) (h:n<18446744073709551616):aS (p9 n):=by unfold p9 aS;split<;>omega
theorem Rf (n:Int):kH (be n)=u64 n:=by
 have h:=adC n;simp only [kH,be,List.foldl_cons,List.foldl_nil,jh,UInt8.toNat_ofNat'];generalize u64 n=k at h ⊢;simp only [show (256:Nat)^7=72057594037927936 from rfl,show (256:Nat)^6=281474976710656 from rfl,show (256:Nat)^5=1099511627776 from rfl,show (256:Nat)^4=4294967296 from rfl,show (256:Nat)^3=16777216 from rfl,show (256:Nat)^2=65536 from rfl,show (256:Nat)^1=256 from rfl,show (256:Nat)^0=1 from rfl]
 omega
theorem ab2 (n:Int) (h:aS n):p9 (kH (be n))=n:=by
 rw [Rf];unfold p9 u64;unfold aS at h;split<;>omega
def bytesOf (xs:List UInt8):List UInt8:=be xs.length++xs
@[simp] theorem fI (xs:List UInt8):(bytesOf xs).length=8+xs.length:=by simp [bytesOf]
end Go.Sp
end
end
end
end
end
section
/- Texts of this proof, one behind the other. -/
section
/- Texts of this proof, one behind the other. -/
section
/- Texts of this proof. -/
namespace Go.Sp
section
variable {ro:Option Nat} {P:Program} {fn:Func} {n:Nat} {R:Ending→World→Prop} {k:List Item} {σ:List (Nat × Value)} {D:List Deferred} {g:bp} {aa ζ cL:List az} {ops:Array Oper} {L l:List Nat} {i d:Nat} {t e:TypeId} {x y z:Operand} {α:Type} {T:ag α}
theorem S.adE {c:Code} (h:S ro P fn n R (.code c::.inLoop c::k) σ D g aa):S ro P fn n R (.code (.loop c)::k) σ D g aa :=
 S.loop (fun _:Unit=>True) (fun _=>σ) (fun _=>aa) (fun _=>0) () trivial Sub.refl rfl fun _ _ _=>h
theorem dj.acL {t2:TypeId} {xs:List UInt8} (ht:P.underlying t=some .string) (lJ:P.underlying t2=some (.slice e)) (he:P.underlying e=some (.int .u8)) (hx:aE σ x=some (.string (str xs))) (hl:xs.length≤9223372036854775807) :
  dj P (.convert t t2 x) σ g aa fun u au =>∃ a c,u=.slice a xs.length c∧au =(fun m=>av ag.u8 m u xs)::aa :=
 fun o ρ w ho hk hw=>by
  have hr:=Lib.run_convert_string_bytes (P:=P) w t t2 e (str xs) ht lJ he;have ho' :(execOp ρ o).run P w=.ok (.value (.slice (some ⟨w.heap.size,0,none⟩) (str xs).size (grownCap w (str xs).size 0 e))) (Lib.bytesWorld w e (str xs)):=by
   simp [execOp,ho,hk x _ hx,hr]
  have hge:=grownCap_ge w (str xs).size 0 e;have j4:=grownCap_le_maxLen w (str xs).size 0 e (by simpa [maxLen] using hl);rw [l5] at hge j4;have hh:ax (Lib.bytesWorld w e (str xs)) g (kg w.heap.size (.cells (Lib.bytesCells w e (str xs)) e ((Lib.bytesCells w e (str xs)).size,(Lib.bytesCells w e (str xs)).size+1))::aa):=by
   have h1:ax (w.drew.alloc (.cells (Lib.bytesCells w e (str xs)) e)) g (kg w.heap.size (.cells (Lib.bytesCells w e (str xs)) e)::aa):=(hw.drewN (w.drawn+1) (Nat.le_add_right _ _)).alloc _;refine h1.setBlock (Lib.bytesWorld_at_new w e (str xs)) ?_ rfl rfl rfl
   intro i hi
   have:w.heap.size≠i:=fun h=>hi h.symm
   simp [Lib.bytesWorld,World.freeze,Array.getElem?_modify,this]
  have hsz:(Lib.bytesCells w e (str xs)).size=grownCap w xs.length 0 e:=by
   simp only [Lib.bytesCells,Array.size_append,Array.size_map,Array.size_replicate,l5]
   simp [str];omega
  refine ⟨_,_,_,⟨some ⟨w.heap.size,0,none⟩,grownCap w xs.length 0 e,by rw [l5],rfl⟩,ho',hh.imp fun _=>Sat.g9 (fun m q=>⟨xs.map (fun b=>[aT b]),EW (fun _=>rfl) xs |>.imp fun _ _=>ag.u8.mono (Fr.dY m),?_⟩) fun _ q=>q⟩;rw [l5];refine Rn q hge (by simpa [maxLen] using j4) (by rw [hsz];simp [ag.u8]) ?_;have e1:(xs.map (fun b=>[aT b])).flatten=xs.map aT:=by
   clear hx hl hr ho' hge j4 hh hsz q
   induction xs with
   |nil=>rfl
   |cons a xs ih=>simp [ih]
  rw [e1];simp only [Lib.bytesCells,ag.u8,Nat.mul_one]
  simp [str,aT]
theorem av.cut {h:Fr} {a:Option Addr} {c m:Nat} {xs ys:List α} (hm:m=xs.length) (x:av T h (.slice a (xs.length+ys.length) c) (xs++ys)):av T h (.slice a m c) xs:=by
 subst hm;obtain ⟨aG,ha,a',cap,hv,h1,h2,h3,h4⟩:=x
 injection hv with e1 e2 cZ;subst e1 cZ
 have hl:aG.length=xs.length+ys.length:=by rw [ha.length];simp
 have ht:=ha.take xs.length;rw [List.take_left' rfl] at ht;have he:(aG.take xs.length).flatten=aG.flatten.take (xs.length*T.k):=(ha.x2 _).symm;refine ⟨aG.take xs.length,ht,a,c,rfl,by rw [List.length_append] at h1;omega,⟨h2.1,h2.2⟩,?_,?_⟩
 ·rw [he,List.length_take,h3,List.length_append];exact Nat.min_eq_left (Nat.mul_le_mul_right _ (by omega))
 ·intro j hj
  have hj' :j<aG.flatten.length:=by rw [he,List.length_take] at hj;omega
  obtain ⟨p,hp,hc⟩:=h4 j hj';refine ⟨p,hp,?_⟩;rw [hc];simp [he]
theorem aK.PW {kb:IntKind} {a:Option Addr} {m c q:Nat} {m6:Int} (ht:P.underlying t=some (.slice e)) (he:(P.info? e).map (·.size)=some T.k) (hx:aE σ x=some (.slice a m c)) (hy:aE σ y=some (.int kb m6)) (hz:m6=(q:Int)) (hq:q≤c) :
  aK P (.slice t x none (some y) none) σ g aa (.slice a q c) aa :=
 fun o ρ w ho hk hw=>⟨w,by
  subst hz
  cases a<;>simp [execOp,ho,hk x _ hx,hk y _ hy,Instr.sliceAt,run_underlying ht,Instr.slice,Instr.sliceBounds,Instr.sliceBound,asIntOf,hq,run_sizeOf he,Addr.add],hw⟩
theorem O.qa {kb:IntKind} {a:Option Addr} {m c q:Nat} {m6:Int} (T:ag α) (ho:cA ops i n σ d (.slice t x none (some y) none)) (ht:P.underlying t=some (.slice e)) (he:(P.info? e).map (·.size)=some T.k) (hx:aE σ x=some (.slice a m c)) (hy:aE σ y=some (.int kb m6)) (hz:m6=(q:Int)) (hq:q≤c)
  (h:O ro P fn n R ops l k ((d,.slice a q c)::σ) D g aa):O ro P fn n R ops (i::l) k σ D g aa:=O.op ho (aK.PW (T:=T) ht he hx hy hz hq) h
theorem av.room {h:Fr} {a:Option Addr} {c m:Nat} {xs:List α} (x:av T h (.slice a m c) xs):m=xs.length∧m≤c:=by
 obtain ⟨_,_,a',cap,hv,h1,_⟩:=x
 cases hv;exact ⟨rfl,h1⟩
theorem ak.room {h:Fr} {a:Option Addr} {c m:Nat} {xs:List α} (x:ak T e (.slice a m c) xs h):m=xs.length∧m≤c:=x.arr.room
theorem aK.min2 {kd:IntKind} {a b:Int} (hx:aE σ x=some (.int kd a)) (hy:aE σ y=some (.int kd b)) :
  aK P (.call ⟨.builtin .min,#[x,y],#[t,t]⟩) σ g aa (.int kd (if b<a then b else a)) aa :=
 fun o ρ w ho hk hw=>⟨w,by
  simp [execOp,ho,hk x _ hx,hk y _ hy,resolve,invoke,builtin,Builtin.min_,Builtin.min2],hw⟩
theorem bA.app {aa ζ cL:List az} {A:az} (s:bA aa A ζ):bA (aa++cL) A (ζ++cL):=by
 induction s with
 |here=>exact .here
 |there _ ih=>exact .there ih
theorem eo.bw {bZ:Bool} {dx len:Nat} {z:List Value} {parts:Array (Nat × Operand)} {vs:List Value} {ys:List α} (ho:cA ops i n σ d (.buildSlice t len parts)) (hd:fX bZ ops i l=true) (ht:P.underlying t=some (.slice e)) (he:cu P e T.k dx z) (hk:0<T.k)
  (hp:partsOf σ parts.toList 0=some vs) (hlen:parts.toList.length=len) (hvs:cG (T.rel Fr.emp) (vs.map (·.cells.toList)) ys) (gJ:len*T.k≤16777216)
  (h:∀ a c,ah P fn n R ops k D g l ((d,.slice a len c)::σ) (ak T e (.slice a len c) ys::aa)):bt P fn n R ops k D g bZ (i::l) σ aa :=
 eo.kQ (K:=fun v au =>∃ a c,v=.slice a len c∧au =ak T e v ys::aa) ho rfl hd (fun _=>(dj.bw ht he hk hp hlen hvs gJ).imp fun _ _ ⟨a,c,h1,h2⟩=>⟨_,⟨a,c,h1,rfl⟩,h2⟩)
  fun _ _ ⟨a,c,h1,h2⟩=>by subst h1;subst h2;exact h a c
theorem ah.bw {dx len:Nat} {z:List Value} {parts:Array (Nat × Operand)} {vs:List Value} {ys:List α} (ho:cA ops i n σ d (.buildSlice t len parts)) (hd:gG ops [i] l=true) (ht:P.underlying t=some (.slice e)) (he:cu P e T.k dx z) (hk:0<T.k) (hp:partsOf σ parts.toList 0=some vs) (hlen:parts.toList.length=len) (hvs:cG (T.rel Fr.emp) (vs.map (·.cells.toList)) ys) (gJ:len*T.k≤16777216) (h:∀ a c,ah P fn n R ops k D g l ((d,.slice a len c)::σ) (ak T e (.slice a len c) ys::aa)):ah P fn n R ops k D g (i::l) σ aa:=eo.bw (bZ:=false) ho (by simpa [fX] using hd) ht he hk hp hlen hvs gJ h
theorem e3.bw {dx len:Nat} {z:List Value} {parts:Array (Nat × Operand)} {vs:List Value} {ys:List α} (ho:cA ops i n σ d (.buildSlice t len parts)) (_:true=true) (ht:P.underlying t=some (.slice e)) (he:cu P e T.k dx z) (hk:0<T.k) (hp:partsOf σ parts.toList 0=some vs) (hlen:parts.toList.length=len) (hvs:cG (T.rel Fr.emp) (vs.map (·.cells.toList)) ys) (gJ:len*T.k≤16777216) (h:∀ a c,ah P fn n R ops k D g l ((d,.slice a len c)::σ) (ak T e (.slice a len c) ys::aa)):bt P fn n R ops k D g true (i::l) σ aa:=eo.bw (bZ:=true) ho rfl ht he hk hp hlen hvs gJ h
theorem eo.fH {bZ:Bool} {dx:Nat} {z:List Value} {v u:Value} {xs ys:List α} (ho:cA ops i n σ d (.call ⟨.builtin .append,#[x,y],#[t,t]⟩)) (hd:fX bZ ops i l=true) (ht:P.underlying t=some (.slice e)) (he:cu P e T.k dx z) (hk:0<T.k) (hx:aE σ x=some v) (hy:aE σ y=some u)
  (hl:bA aa (ak T e u ys) cL) (hs:bA cL (ak T e v xs) ζ) (hb:(xs.length+ys.length)*dx≤140737488355328) (h63:xs.length+ys.length≤9223372036854775807)
  (h:∀ a c,ah P fn n R ops k D g l ((d,.slice a (xs.length+ys.length) c)::σ) (ak T e (.slice a (xs.length+ys.length) c) (xs++ys)::ζ)):bt P fn n R ops k D g bZ (i::l) σ aa :=
 eo.kQ (K:=fun v' au =>∃ a c,v' =.slice a (xs.length+ys.length) c∧au =ak T e v' (xs++ys)::ζ) ho rfl hd (fun _=>(dj.fH ht he hk hx hy hl.app hs.app hb h63).imp fun _ _ ⟨a,c,h1,h2⟩=>⟨_,⟨a,c,h1,rfl⟩,h2⟩)
  fun _ _ ⟨a,c,h1,h2⟩=>by subst h1;subst h2;exact h a c
theorem ah.fH {dx:Nat} {z:List Value} {v u:Value} {xs ys:List α} (ho:cA ops i n σ d (.call ⟨.builtin .append,#[x,y],#[t,t]⟩)) (hd:gG ops [i] l=true) (ht:P.underlying t=some (.slice e)) (he:cu P e T.k dx z) (hk:0<T.k) (hx:aE σ x=some v) (hy:aE σ y=some u) (hl:bA aa (ak T e u ys) cL) (hs:bA cL (ak T e v xs) ζ) (hb:(xs.length+ys.length)*dx≤140737488355328) (h63:xs.length+ys.length≤9223372036854775807) (h:∀ a c,ah P fn n R ops k D g l ((d,.slice a (xs.length+ys.length) c)::σ) (ak T e (.slice a (xs.length+ys.length) c) (xs++ys)::ζ)):ah P fn n R ops k D g (i::l) σ aa:=eo.fH (bZ:=false) ho (by simpa [fX] using hd) ht he hk hx hy hl hs hb h63 h
theorem eo.mb {bZ:Bool} {dx:Nat} {z:List Value} {v u:Value} {xs ys:List α} (ho:cA ops i n σ d (.call ⟨.builtin .append,#[x,y],#[t,t]⟩)) (hd:fX bZ ops i l=true) (hT:T.Pure) (ht:P.underlying t=some (.slice e)) (he:cu P e T.k dx z) (hk:0<T.k) (hx:aE σ x=some v) (hy:aE σ y=some u)
  (hs:bA aa (ak T e v xs) ζ) (hu:av T g.h u ys) (hb:(xs.length+ys.length)*dx≤140737488355328) (h63:xs.length+ys.length≤9223372036854775807)
  (h:∀ a c,ah P fn n R ops k D g l ((d,.slice a (xs.length+ys.length) c)::σ) (ak T e (.slice a (xs.length+ys.length) c) (xs++ys)::ζ)):bt P fn n R ops k D g bZ (i::l) σ aa :=
 eo.kQ (K:=fun v' au =>∃ a c,v' =.slice a (xs.length+ys.length) c∧au =ak T e v' (xs++ys)::ζ) ho rfl hd (fun _=>(dj.mb hT ht he hk hx hy hs.app hu hb h63).imp fun _ _ ⟨a,c,h1,h2⟩=>⟨_,⟨a,c,h1,rfl⟩,h2⟩)
  fun _ _ ⟨a,c,h1,h2⟩=>by subst h1;subst h2;exact h a c
theorem ah.mb {dx:Nat} {z:List Value} {v u:Value} {xs ys:List α} (ho:cA ops i n σ d (.call ⟨.builtin .append,#[x,y],#[t,t]⟩)) (hd:gG ops [i] l=true) (hT:T.Pure) (ht:P.underlying t=some (.slice e)) (he:cu P e T.k dx z) (hk:0<T.k) (hx:aE σ x=some v) (hy:aE σ y=some u) (hs:bA aa (ak T e v xs) ζ) (hu:av T g.h u ys) (hb:(xs.length+ys.length)*dx≤140737488355328) (h63:xs.length+ys.length≤9223372036854775807) (h:∀ a c,ah P fn n R ops k D g l ((d,.slice a (xs.length+ys.length) c)::σ) (ak T e (.slice a (xs.length+ys.length) c) (xs++ys)::ζ)):ah P fn n R ops k D g (i::l) σ aa:=eo.mb (bZ:=false) ho (by simpa [fX] using hd) hT ht he hk hx hy hs hu hb h63 h
theorem eo.qP {v:Value} {xs:List α} {j:Nat} {kd:IntKind} (ho:cA ops i n σ d (.indexAddr t x y)) {bZ:Bool} (hd:fX bZ ops i l=true) (ht:P.underlying t=some (.slice e)) (he:(P.info? e).map (·.size)=some T.k) (hx:aE σ x=some v) {de:Int} (hy:aE σ y=some (.int kd de)) (eN:de=(j:Int))
  (hs:bA aa (ak T e v xs) ζ) (hj:j<xs.length) (h:∀ p,uq v T.k j p→ah P fn n R ops k D g l ((d,.pointer (some p))::σ) aa):bt P fn n R ops k D g bZ (i::l) σ aa :=
 bt.perm hs.perm (eo.kQ (aa:=ak T e v xs::ζ) (K:=fun u au =>∃ p,u=.pointer (some p)∧uq v T.k j p∧au =ak T e v xs::ζ) ho rfl hd
  (fun _=>(dj.qP ht he hx hy eN bA.here hj).imp fun _ _ ⟨p,a,b,c⟩=>⟨_,⟨p,a,b,rfl⟩,c⟩) fun _ _ ⟨p,a,b,c⟩=>by subst a;subst c;exact bt.perm hs.perm.symm (h p b))
theorem ah.qP {v:Value} {xs:List α} {j:Nat} {kd:IntKind} (ho:cA ops i n σ d (.indexAddr t x y)) (hd:gG ops [i] l=true) (ht:P.underlying t=some (.slice e)) (he:(P.info? e).map (·.size)=some T.k) (hx:aE σ x=some v) {de:Int} (hy:aE σ y=some (.int kd de)) (eN:de=(j:Int)) (hs:bA aa (ak T e v xs) ζ) (hj:j<xs.length) (h:∀ p,uq v T.k j p→ah P fn n R ops k D g l ((d,.pointer (some p))::σ) aa):ah P fn n R ops k D g (i::l) σ aa:=eo.qP (bZ:=false) ho (by simpa [fX] using hd) ht he hx hy eN hs hj h
theorem eo.sj {v u:Value} {xs:List α} {j q:Nat} {p:Addr} {a:α} (ho:nN ops q=some (.store t x y)) {bZ:Bool} (hd:fX bZ ops q l=true) (hsz:(P.info? t).map (·.size)=some T.k) (hx:aE σ x=some (.pointer (some p))) (hp:uq v T.k j p) (hy:aE σ y=some u)
  (hs:bA aa (ak T e v xs) ζ) (hj:j<xs.length) (hu:T.rel Fr.emp u.cells.toList a) (h:ah P fn n R ops k D g l σ (ak T e v (xs.set j a)::ζ)):bt P fn n R ops k D g bZ (q::l) σ aa :=
 bt.perm hs.perm (eo.o7 (aa:=ak T e v xs::ζ) (au :=ak T e v (xs.set j a)::ζ) ho rfl hd (fun _=>.sj hsz hx hp hy bA.here hj hu) h)
theorem ah.sj {v u:Value} {xs:List α} {j q:Nat} {p:Addr} {a:α} (ho:nN ops q=some (.store t x y)) (hd:gG ops [q] l=true) (hsz:(P.info? t).map (·.size)=some T.k) (hx:aE σ x=some (.pointer (some p))) (hp:uq v T.k j p) (hy:aE σ y=some u) (hs:bA aa (ak T e v xs) ζ) (hj:j<xs.length) (hu:T.rel Fr.emp u.cells.toList a) (h:ah P fn n R ops k D g l σ (ak T e v (xs.set j a)::ζ)):ah P fn n R ops k D g (q::l) σ aa:=eo.sj (bZ:=false) ho (by simpa [fX] using hd) hsz hx hp hy hs hj hu h
theorem S.Ma {todo:List Item} {B:az} (s:bA aa B ζ) (h:∀ g' :bp,g.h.sub g'.h→(∃ m:Fr,B m∧m.sub g'.h) →
   (∀ {todo:List Item} {σ:List (Nat × Value)} {cL:List az},S ro P fn n R todo σ D g (B::cL)→S ro P fn n R todo σ D g' cL)→S ro P fn n R todo σ D g' ζ):S ro P fn n R todo σ D g aa :=
 S.eJ s (S.freeze fun m hm hd=>h (g.add m) (Fr.fi _ _) ⟨m,hm,Fr.jw hd⟩ fun x=>S.wY hm hd x)
theorem ah.slot {v v' :Value} (q:Nat) (hl:look σ q=some v) (h0:v=v') (h:ah P fn n R ops k D g L ((q,v')::σ) aa):ah P fn n R ops k D g L σ aa:=ah.weaken h (Sub.Fu hl h0 Sub.refl)
end
theorem D5 {a b:UInt8} (h:(a.toNat:Int)=b.toNat):a=b:=UInt8.toNat_inj.mp (by omega)
theorem P_ {a b:UInt8} (h:a=b):(a.toNat:Int)=b.toNat:=by rw [h]
end Go.Sp
end
section
/- Texts of this proof, one behind the other. -/
section
/- Texts of this proof. -/
namespace Go.Sp
theorem ax.putObj {w:World} {g:bp} {aa:List az} {b:Nat} {o:Obj} (o' :Obj) (h:ax w g (kg b o::aa)):ax (w.putObj b o') g (kg b o' ::aa):=by
 have hb:=h.block;have hlt:=(Array.getElem?_eq_some_iff.1 hb).1;exact h.setBlock (World.putObj_heap_same hlt) (fun i hi=>World.putObj_heap_other hi) rfl rfl rfl
section ycon
variable {P:Program} {l:Nat} {args:Array Value} {r:Fr} {aa:List az} {Post:Ending→List az→Prop}
end ycon
section
variable {ro:Option Nat} {P:Program} {fn:Func} {n:Nat} {R:Ending→World→Prop} {k:List Item} {σ:List (Nat × Value)} {D:List Deferred} {g:bp} {aa ζ cL:List az}
 {ops:Array Oper} {i d l:Nat} {ls:List Nat} {f:FuncId} {x y:Operand} {xs:Array Operand} {ts:Array TypeId} {b9:List Value} {K:Value→List az→Prop}
def under:List Nat→List Value→List (Nat × Value)→List (Nat × Value)
 |p::ps,v::vs,σ=>under ps vs ((p,v)::σ)
 |_,_,σ=>σ
theorem S.cH {todo:List Item} {b:Nat} {T:TypeId} {cs cs' :List Value} (s:bA aa (obj b T cs) ζ) (e:cs=cs') (h:S ro P fn n R todo σ D g (obj b T cs' ::ζ)):S ro P fn n R todo σ D g aa:=S.eJ s (e ▸ h)
end
end Go.Sp
end
section
/- Texts of this proof. -/
namespace Go.Sp
open Go.ChangeShapes
theorem L6 (w:World) (a:Addr):Fr.cell w.fr a=w.cell? a:=by
 unfold Fr.cell World.cell? World.fr
 cases w.heap[a.block]? with
 |none=>rfl
 |some o=>cases o<;>rfl
def ag.unit:ag Unit:={ k:=0,rel:=fun _ cs _=>cs=[],len:=fun h=>by rw [h];rfl,mono:=fun _ h=>h,one:=fun h c hc=>by subst h;simp at hc }
def ag.prod {α β:Type} (T:ag α) (qn:ag β):ag (α × β) :=
 {k:=T.k+qn.k,rel:=fun h cs x=>∃ c1 c2,cs=c1++c2∧T.rel h c1 x.1∧qn.rel h c2 x.2,len:=fun ⟨c1,c2,h,a,b⟩=>by rw [h,List.length_append,T.len a,qn.len b]
  mono:=fun s ⟨c1,c2,h,a,b⟩=>⟨c1,c2,h,T.mono s a,qn.mono s b⟩
  one:=fun ⟨c1,c2,h,a,b⟩ c hc=>by
   subst h
   rcases List.mem_append.1 hc with x|x
   ·exact T.one a c x
   ·exact qn.one b c x }
def yq {H:Type} (P:Program) (t:TypeId) (d:DataW H):Prop:=∀ n∈d.weights P t,n≤reachBytes
theorem NM {H:Type} {P:Program} {e:TypeId}:∀ {ds:List (DataW H)} (_:∀ n∈DataW.weightsAll P e ds,n≤reachBytes) (i:Nat) (hi:i<ds.length),yq P e ds[i]
 |d::ds,h,0,_=>fun n hn=>h n (by simp [DataW.weightsAll];exact .inl hn)
 |d::ds,h,i+1,hi=>NM (ds:=ds) (fun n hn=>h n (by simp [DataW.weightsAll];exact .inr hn)) i (by simpa using hi)
theorem ID {H:Type} {P:Program}:∀ {ts:List TypeId} {ds:List (DataW H)} (_:∀ n∈DataW.weightsEach P ts ds,n≤reachBytes) (i:Nat) (ht:i<ts.length) (hi:i<ds.length),yq P ts[i] ds[i]
 |t::ts,d::ds,h,0,_,_=>fun n hn=>h n (by simp [DataW.weightsEach];exact .inl hn)
 |t::ts,d::ds,h,i+1,ht,hi=>ID (ts:=ts) (ds:=ds) (fun n hn=>h n (by simp [DataW.weightsEach];exact .inr hn)) i (by simpa using ht) (by simpa using hi)
def dK (P:Program) (t:TypeId) {α:Type} (T:ag α) (Q:α→Prop):Prop :=
 ∀ (H:Type) (enc:TypeId × Value→H) (w:World) (base:Nat) (spare:Nat→Bool) (held:Bool) (fuel:Nat) (cs:List Value) (x:DataW H × List MemPlace),
  DataW.trod enc P w base spare held fuel t cs=some x→yq P t x.1→∃ a,T.rel w.fr cs a∧Q a
def uu {α:Type} (Q:α→Prop) (xs:List α):Prop:=xs.length≤140737488351232∧∀ x∈xs,Q x
def kC {α:Type} (_:α):Prop:=True
theorem dK.u8 {P:Program} {t:TypeId} (ht:P.underlying t=some (.int .u8)):dK P t ag.u8 kC:=fun _ _ _ _ _ _ _ _ _ h _=>by
 obtain ⟨n,rfl,_,hw⟩:=DataW.trod_int ht h;have:0≤n∧n≤255:=by simpa [Lit.wf,IntKind.min,IntKind.max,IntKind.wrap,IntKind.bits,IntKind.signed] using hw
 refine ⟨UInt8.ofNat n.toNat,?_,trivial⟩
 show _=_
 have e:((UInt8.ofNat n.toNat).toNat:Int)=n:=by
  have:(UInt8.ofNat n.toNat).toNat=n.toNat % 256:=by simp
  omega
 rw [aT,e]
theorem dK.i64 {P:Program} {t:TypeId} (ht:P.underlying t=some (.int .i64)):dK P t ag.i64 aS:=fun _ _ _ _ _ _ _ _ _ h _=>by
 obtain ⟨n,rfl,_,hw⟩:=DataW.trod_int ht h;have:aS n:=by unfold aS;simpa [Lit.wf,IntKind.min,IntKind.max,IntKind.wrap,IntKind.bits,IntKind.signed] using hw
 exact ⟨n,⟨rfl,this⟩,this⟩
theorem dK.bool {P:Program} {t:TypeId} (ht:P.underlying t=some .bool):dK P t ag.bool kC:=fun _ _ _ _ _ _ _ _ _ h _=>by
 obtain ⟨n,rfl,_⟩:=DataW.trod_bool ht h;exact ⟨n,rfl,trivial⟩
theorem acO (s:ByteArray):str s.data.toList=s:=by cases s;rfl
theorem dK.str {P:Program} {t:TypeId} (ht:P.underlying t=some .string):dK P t ag.str (fun s=>s.length≤140737488351232):=fun _ _ _ _ _ _ _ _ _ h hl=>by
 obtain ⟨s,rfl,rfl,hs⟩:=DataW.trod_string ht h;exact ⟨s.data.toList,⟨by rw [acO],by unfold maxLen at hs;rw [Array.length_toList];exact Nat.le_trans hs (by decide)⟩,hl _ (by simp [DataW.weights])⟩
theorem Ln {α:Type} {p:Nat→α→Prop}:∀ {n:Nat} (_:∀ i,i<n→∃ x,p i x),∃ l:List α,l.length=n∧∀ i (hi:i<l.length),p i l[i]
 |0,_=>⟨[],rfl,fun i hi=>absurd hi (by simp)⟩
 |n+1,h=>by
  obtain ⟨l,h1,h2⟩:=Ln (n:=n) (fun i hi=>h i (by omega));obtain ⟨x,hx⟩:=h n (by omega);refine ⟨l++[x],by simp [h1],fun i hi=>?_⟩
  by_cases hi' :i<l.length
  ·rw [List.getElem_append_left hi'];exact h2 i hi'
  ·have:i=n:=by simp at hi;omega
   subst this;rw [List.getElem_append_right (by omega)];simpa using hx
theorem cG.Oq {α β:Type} {R:β→α→Prop}:∀ {bs:List β} {as:List α},bs.length=as.length→(∀ i (hb:i<bs.length) (ha:i<as.length),R bs[i] as[i])→cG R bs as
 |[],[],_,_=>trivial
 |_::_,[],h,_=>by simp at h
 |[],_::_,h,_=>by simp at h
 |b::bs,a::as,h,hr=>⟨hr 0 (by simp) (by simp),cG.Oq (by simpa using h) fun i hb ha=>hr (i+1) (by simp;omega) (by simp;omega)⟩
theorem FT {α:Type} {k:Nat}:∀ {aG:List (List α)},(∀ c∈aG,c.length=k)→aG.flatten.length=aG.length*k
 |[],_=>by simp
 |c::aG,h=>by
  rw [List.flatten_cons,List.length_append,FT (fun d hd=>h d (by simp [hd])),h c (by simp)];simp [Nat.succ_mul];omega
theorem LY {α:Type} {k:Nat} (hk:0<k):∀ {aG:List (List α)} (_:∀ c∈aG,c.length=k) (j:Nat),aG.flatten[j]?=(aG[j / k]?).bind fun c=>c[j % k]?
 |[],_,j=>by simp
 |c::aG,h,j=>by
  have hc:=h c (by simp)
  by_cases hj:j<k
  ·rw [List.flatten_cons,List.getElem?_append_left (by omega),Nat.div_eq_of_lt hj,Nat.mod_eq_of_lt hj];simp
  ·have hj' :k≤j:=by omega
   rw [List.flatten_cons,List.getElem?_append_right (by omega),hc,LY hk (fun d hd=>h d (by simp [hd]))];have e1:j / k=(j - k) / k+1:=by rw [Nat.div_eq_sub_div hk hj']
   have e2:j % k=(j - k) % k:=by rw [Nat.mod_eq_sub_mod hj']
   rw [e1,e2];simp
theorem dK.slice {P:Program} {t e:TypeId} {α:Type} {T:ag α} {Q:α→Prop} (ho:dK P e T Q) (ht:P.underlying t=some (.slice e)) (hc:P.cellsOf e=T.k) (hy:0<P.bytesOf e) (hk:0<T.k):dK P t (ag.slice T) (uu Q):=fun H enc w base spare held fuel cs x h hlt=>by
 rcases DataW.trod_slice ht h with ⟨rfl,_⟩|⟨a,len,cap,elems,rest,n,_,rfl,rfl,hb,hl,hm,hlen,hel,_,_⟩
 ·exact ⟨[],⟨_,rfl,av.nil⟩,by simp,by simp⟩
 have hw:len*P.bytesOf e≤reachBytes∧∀ n∈DataW.weightsAll P e (elems.map (·.1)),n≤reachBytes:=by
  unfold yq at hlt;simp only [DataW.weights,ht,List.length_map,List.mem_cons,List.mem_append] at hlt;exact ⟨Nat.le_trans (Nat.mul_le_mul_right _ (by omega)) (hlt _ (.inl rfl)),fun n hn=>hlt n (.inr (.inl hn))⟩
 have agN:len≤140737488351232:=by
  have:=Nat.le_trans (Nat.le_mul_of_pos_right len hy) hw.1;unfold reachBytes at this;omega
 have each:∀ i,i<len→∃ y:List Value × α,y.1.length=T.k∧(T.rel w.fr y.1 y.2∧Q y.2)∧∀ q,q<T.k→w.cell? ((a.add (i*T.k)).add q)=y.1[q]?:=by
  intro i hi
  have h1:=hel i hi;rw [List.getElem?_eq_getElem (by omega),hc,Option.bind_eq_some_iff] at h1;obtain ⟨ds,h2,h3⟩:=h1;obtain ⟨b,hb⟩:=ho _ enc w base spare held n ds _ h3 (by have h9:=NM hw.2 i (by simp;omega);rw [List.getElem_map] at h9;exact h9);obtain ⟨_,h4,h5⟩:=World.cells?_some h2;exact ⟨(ds,b),h4,hb,h5⟩
 obtain ⟨l,h1,h2⟩:=Ln each;have hQ:uu Q (l.map (·.2)):=by
  refine ⟨by simp;omega,fun y hy=>?_⟩;obtain ⟨z,hz,rfl⟩:=List.mem_map.1 hy;obtain ⟨i,hi,rfl⟩:=List.mem_iff_getElem.1 hz;exact (h2 i hi).2.1.2
 refine ⟨l.map (·.2),⟨_,rfl,l.map (·.1),?_,some a,cap,?_,?_,⟨?_,fun h=>by cases h⟩,?_,?_⟩,hQ⟩
 ·refine cG.Oq (by simp) fun i hb ha=>?_
  simp only [List.getElem_map];exact (h2 i (by simpa using hb)).2.1.1
 ·simp [h1]
 ·simp [h1];omega
 ·simpa [maxLen] using hm
 ·rw [FT (k:=T.k)]
  ·simp
  ·intro c hc
   obtain ⟨y,hy,rfl⟩:=List.mem_map.1 hc;obtain ⟨i,hi,rfl⟩:=List.mem_iff_getElem.1 hy;exact (h2 i hi).1
 ·intro j hj
  refine ⟨a,rfl,?_⟩;have hall:∀ c∈l.map (·.1),c.length=T.k:=by
   intro c hc
   obtain ⟨y,hy,rfl⟩:=List.mem_map.1 hc;obtain ⟨i,hi,rfl⟩:=List.mem_iff_getElem.1 hy;exact (h2 i hi).1
  rw [L6,← List.getElem?_eq_getElem hj,LY hk hall];have hj2:j<l.length*T.k:=by rw [FT hall] at hj;simpa using hj
  have hi:j / T.k<l.length:=by rw [Nat.div_lt_iff_lt_mul hk];exact hj2
  have hq:j % T.k<T.k:=Nat.mod_lt _ hk;have:=(h2 _ hi).2.2 _ hq;rw [Addr.add_add,show j / T.k*T.k+j % T.k=j from by rw [Nat.mul_comm];exact Nat.div_add_mod j T.k] at this;rw [this]
  simp [List.getElem?_eq_getElem hi]
def dO (P:Program) (fs:List Field) (off:Nat) {α:Type} (T:ag α) (Q:α→Prop):Prop :=
 ∀ (H:Type) (enc:TypeId × Value→H) (w:World) (base:Nat) (spare:Nat→Bool) (held:Bool) (fuel:Nat) (cs:List Value),
  (∀ f∈fs,∃ x,DataW.trod enc P w base spare held fuel f.type ((cs.drop f.offset).take (P.cellsOf f.type))=some x∧yq P f.type x.1)→cs.length=off+T.k→∃ a,T.rel w.fr (cs.drop off) a∧Q a
theorem dO.nil {P:Program} {off:Nat}:dO P [] off ag.unit kC:=fun _ _ _ _ _ _ _ cs _ h=>⟨(),by show cs.drop off=[];rw [List.drop_eq_nil_of_le];simp [ag.unit] at h;omega,trivial⟩
theorem dO.cons {P:Program} {f:Field} {fs:List Field} {off:Nat} {α β:Type} {T:ag α} {qn:ag β} {Q:α→Prop} {R:β→Prop} (ho:f.offset=off) (hc:P.cellsOf f.type=T.k) (h1:dK P f.type T Q) (h2:dO P fs (off+T.k) qn R):dO P (f::fs) off (ag.prod T qn) (fun x=>Q x.1∧R x.2) :=
 fun H enc w base spare held fuel cs h hl=>by
  obtain ⟨x,hx,hx'⟩:=h f (by simp);rw [ho,hc] at hx;obtain ⟨a,ha,lz⟩:=h1 _ _ _ _ _ _ _ _ _ hx hx';obtain ⟨b,hb,p5⟩:=h2 _ enc w base spare held fuel cs (fun g hg=>h g (by simp [hg])) (by rw [hl];simp [ag.prod];omega);exact ⟨(a,b),⟨_,_,(by rw [← List.drop_drop,List.take_append_drop]:cs.drop off=(cs.drop off).take T.k++cs.drop (off+T.k)),ha,hb⟩,lz,p5⟩
theorem dK.struct {P:Program} {t:TypeId} {fs:List Field} {α:Type} {T:ag α} {Q:α→Prop} (ho:dO P fs 0 T Q) (ht:P.underlying t=some (.struct fs.toArray)) (hc:P.cellsOf t=T.k):dK P t T Q:=fun H enc w base spare held fuel cs x h hlt=>by
 obtain ⟨xs,n,_,rfl,hl,hn,hf⟩:=DataW.trod_struct ht h;unfold yq at hlt;simp only [DataW.weights,ht] at hlt;have:=ho _ enc w base spare held n cs (fun f hf' =>by
  obtain ⟨i,hi,rfl⟩:=List.mem_iff_getElem.1 hf';have:=hf i fs[i] (by simp [hi]);have hi2:i<xs.length:=by simp at hn;omega
  rw [List.getElem?_eq_getElem hi2] at this;refine ⟨_,by simpa using this,?_⟩;have:=ID hlt i (by simpa using hi) (by simpa using hi2)
  simpa using this) (by rw [hl,hc];simp)
 simpa using this
end Go.Sp
end
end
end
section
/- Texts of this proof, one behind the other. -/
section
/- Texts of this proof, one behind the other. -/
section
/- Texts of this proof. -/
namespace Go.Sp
structure aQ (α:Type) where
 fR:ag α
 own:List Value→α→az
 rel:∀ {cs:List Value} {a:α} {m:Fr},own cs a m→fR.rel m cs a
theorem cG.nI {α β:Type} {R:β→α→Prop}:∀ {bs:List β} {as:List α},cG R bs as→bs.length=as.length
 |[],[],_=>rfl
 |[],_::_,h=>h.elim
 |_::_,[],h=>h.elim
 |_::_,_::_,h=>congrArg Nat.succ (cG.nI h.2)
theorem BX {k:Nat} {h:Fr}:∀ {cs:List (List Value)} {ds:List (List Value)},cG ((ag.cells k).rel h) cs ds→cs=ds
 |[],[],_=>rfl
 |[],_::_,h=>h.elim
 |_::_,[],h=>h.elim
 |_::_,_::_,h=>by rw [h.1.1,BX h.2]
theorem av.pZ {α:Type} {T:ag α} {k:Nat} {h:Fr} {v:Value} {aG:List (List Value)} {xs:List α} (h1:av (ag.cells k) h v aG) (h2:cG (T.rel h) aG xs) (hk:k=T.k):av T h v xs:=by
 obtain ⟨ds,p,q⟩:=h1;obtain rfl:=BX p;subst hk;exact ⟨ds,h2,by rw [← h2.nI];exact q⟩
def kW {α:Type} (G:aQ α) (e:TypeId) (v:Value) (xs:List α):az:=fun m=>∃ aG,Sat [ak (ag.cells G.fR.k) e v aG,aZ G.own aG xs] m
theorem kW.arr {α:Type} {G:aQ α} {e:TypeId} {v:Value} {xs:List α} {m:Fr}:kW G e v xs m→av G.fR m v xs:=by
 rintro ⟨aG,h1,h2,_,s1,s2,⟨ds,p,q⟩,h3,_,_,t,_,y,_⟩;have hd:=BX p;have hy:=aZ.sW (R:=fun cs a=>G.fR.rel m cs a) (k:=m) (fun b a m' z s=>G.fR.mono s (G.rel z)) y (Fr.bQ t s2);refine ⟨aG,hy,?_⟩;rw [← hy.nI];subst hd;exact (q.sl).mono s1
def aQ.pure {α:Type} (T:ag α):aQ α:={ fR:=T,own:=fun cs a _=>T.rel Fr.emp cs a,rel:=fun h=>T.mono (Fr.dY _) h }
def aQ.row {α:Type} (T:ag α) (e:TypeId):aQ (List α):={ fR:=ag.slice T,own:=fun cs xs m=>∃ v,cs=[v]∧ak T e v xs m,rel:=fun ⟨v,h,x⟩=>⟨v,h,x.arr⟩ }
def aQ.list {α:Type} (G:aQ α) (e:TypeId):aQ (List α):={ fR:=ag.slice G.fR,own:=fun cs xs m=>∃ v,cs=[v]∧kW G e v xs m,rel:=fun ⟨v,h,x⟩=>⟨v,h,x.arr⟩ }
def aQ.prod {α β:Type} (A:aQ α) (B:aQ β):aQ (α × β) :=
 {fR:=ag.prod A.fR B.fR,own:=fun cs x m=>∃ c d,cs=c++d∧Sat [A.own c x.1,B.own d x.2] m
  rel:=fun ⟨c,d,h,z⟩=>by
   obtain ⟨h1,h2,_,s1,s2,p,q⟩:=Sat.two.1 z;obtain ⟨h3,t,u⟩:=q;exact ⟨c,d,h,A.fR.mono s1 (A.rel p),B.fR.mono (Fr.bQ t s2) (B.rel u)⟩ }
def aQ.unit:aQ Unit:={ fR:=ag.unit,own:=fun cs _ _=>cs=[],rel:=fun h=>h }
theorem aQ.tV {α β:Type} {T:ag α} {B:aQ β} {c d:List Value} {x:α} {y:β} {m:Fr} (h:T.rel Fr.emp c x) (h2:B.own d y m):(aQ.prod (aQ.pure T) B).own (c++d) (x,y) m :=
 ⟨c,d,rfl,Fr.emp,m,Fr.eA _,Fr.dY _,Fr.bH _,h,m,Fr.emp,Fr.e7 (Fr.eA _),Fr.bH _,Fr.dY _,h2,trivial⟩
section
variable {ro:Option Nat} {P:Program} {fn:Func} {n:Nat} {R:Ending→World→Prop} {k:List Item} {σ:List (Nat × Value)} {D:List Deferred} {g:bp} {aa ζ cL:List az} {ops:Array Oper} {L:List Nat} {todo:List Item}
 {α:Type} {G:aQ α} {e:TypeId} {v:Value} {xs:List α}
theorem DZ {m:Fr} (h:Sat aa m):Sat (kW G e (.slice none 0 0) []::aa) m:=by
 refine ⟨Fr.emp,m,Fr.eA _,Fr.dY _,Fr.bH _,⟨[],Fr.emp,Fr.emp,Fr.eA _,Fr.dY _,Fr.dY _,?_,Fr.emp,Fr.emp,Fr.eA _,Fr.dY _,Fr.dY _,trivial,trivial⟩,h⟩;exact yA _
end
theorem ah.IE {P:Program} {fn:Func} {n:Nat} {R:Ending→World→Prop} {k:List Item} {σ:List (Nat × Value)} {D:List Deferred} {g:bp} {aa:List az} {ops:Array Oper} {l:List Nat} {i d:Nat} {t:TypeId} {x:Operand} {v:Value}
  (ho:cA ops i n σ d (.load t x)) (hd:gG ops [i] l=true) (eb:∀ ζ,aK P (.load t x) σ g (aa++ζ) v (aa++ζ)) (h:ah P fn n R ops k D g l ((d,v)::σ) aa):ah P fn n R ops k D g (i::l) σ aa :=
 .kQ (K:=fun v' au =>v' =v∧au =aa) ho rfl hd (fun ζ o ρ w h1 h2 h3=>let ⟨w',a,b⟩:=eb ζ o ρ w h1 h2 h3;⟨v,w',aa++ζ,⟨aa,⟨rfl,rfl⟩,rfl⟩,a,b⟩) (by rintro _ _ ⟨rfl,rfl⟩;exact h)
theorem aj.post {P:Program} {f:FuncId} {args:Array Value} {r:Fr} {aa:List az} {Post Post' :Ending→List az→Prop} (h:aj P f args r aa Post) (hp:∀ e au,Post e au →∀ w g,ax w g au →∃ Qz,Post' e Qz ∧ax w g Qz):aj P f args r aa Post' :=
 fun g hr w hw=>(h g hr w hw).mono fun e w' ⟨au,x,y⟩=>hp e au x w' g y
theorem aF.imp {K K' :Value→List az→Prop} (h:∀ v aa,K v aa→K' v aa):∀ e aa,aF K e aa→aF K' e aa
 |.returned v,aa,x=>h v aa x
 |.panicked _,_,x=>x.elim
 |.outgrown,_,x=>x.elim
theorem ax.FJ {w:World} {g:bp} {ζ:List az} {α:Type} {A:α→az} (h:ax w g ((fun m=>∃ x,A x m)::ζ)):∃ x,ax w g (A x::ζ):=by
 obtain ⟨p,q,rr,k,d,s1,s2,k1,k2,kd,t1,t2,⟨x,hx⟩,y⟩:=h;exact ⟨x,p,q,rr,k,d,s1,s2,k1,k2,kd,t1,t2,hx,y⟩
end Go.Sp
end
section
/- Texts of this proof, one behind the other. -/
section
/- Texts of this proof. -/
namespace Go.Sp
section
variable {ro:Option Nat} {P:Program} {fn:Func} {n:Nat} {R:Ending→World→Prop} {k:List Item} {σ:List (Nat × Value)} {D:List Deferred} {g:bp} {aa:List az} {ops:Array Oper} {i d:Nat} {l:List Nat} {t:TypeId} {x:Operand}
theorem acP (xs:List UInt8) (a b:Nat):(str xs).extract a b=str ((xs.take b).drop a):=by
 have:=ByteArray.extract_mk xs a b;unfold str;rw [this,List.drop_take]
theorem P0 {xs:List UInt8} {lo hi:Option Operand} {a b:Nat} {kl kh:IntKind} (ht:P.underlying t=some .string) (hx:aE σ x=some (.string (str xs)))
  (hlo:∀ y,lo=some y→aE σ y=some (.int kl (a:Int))) (CW :lo=none→a=0) (hhi:∀ y,hi=some y→aE σ y=some (.int kh (b:Int))) (Ah :hi=none→b=xs.length)
  (hab:a≤b) (hb:b≤xs.length):∀ aa,aK P (.slice t x lo hi none) σ g aa (.string (str ((xs.take b).drop a))) aa:=fun aa=>.run fun o ρ w ho hk=>by
 have hsz:=l5 xs;have e1:(a:Int)≤(b:Int):=by omega
 have hex:=acP xs a b
 cases lo with
 |none =>
  have:=CW rfl;subst this
  cases hi with
  |none=>have:=Ah rfl;subst this;simp [execOp,ho,hk x _ hx,Instr.sliceAt,run_underlying ht,Instr.slice,Instr.sliceBounds,hsz,hex]
  |some y =>
   simp [execOp,ho,hk x _ hx,hk y _ (hhi y rfl),Instr.sliceAt,run_underlying ht,Instr.slice,Instr.sliceBounds,Instr.sliceBound,asIntOf,hsz,hb,hex]
 |some z =>
  cases hi with
  |none=>have:=Ah rfl;subst this;simp [execOp,ho,hk x _ hx,hk z _ (hlo z rfl),Instr.sliceAt,run_underlying ht,Instr.slice,Instr.sliceBounds,Instr.sliceBound,asIntOf,hsz,hab,hex]
  |some y =>
   simp [execOp,ho,hk x _ hx,hk z _ (hlo z rfl),hk y _ (hhi y rfl),Instr.sliceAt,run_underlying ht,Instr.slice,Instr.sliceBounds,Instr.sliceBound,asIntOf,hsz,hab,hb,hex]
theorem O.acN {xs:List UInt8} {kb:IntKind} {m6:Int} {b:Nat} {y:Operand} (ho:cA ops i n σ d (.slice t x none (some y) none)) (ht:P.underlying t=some .string) (hx:aE σ x=some (.string (str xs))) (hy:aE σ y=some (.int kb m6)) (hz:m6=(b:Int)) (hb:b≤xs.length)
  (h:O ro P fn n R ops l k ((d,.string (str (xs.take b)))::σ) D g aa):O ro P fn n R ops (i::l) k σ D g aa:=by
 subst hz;have:=P0 (P:=P) (σ:=σ) (g:=g) (kl:=.i64) (kh:=kb) (a:=0) (b:=b) ht hx (lo:=none) (hi:=some y) (fun _ h=>nomatch h) (fun _=>rfl) (fun _ h=>by cases h;exact hy) (fun h=>nomatch h) (Nat.zero_le _) hb aa;exact O.op ho this h
theorem O.acM {xs:List UInt8} {ka:IntKind} {sL:Int} {a:Nat} {y:Operand} (ho:cA ops i n σ d (.slice t x (some y) none none)) (ht:P.underlying t=some .string) (hx:aE σ x=some (.string (str xs))) (hy:aE σ y=some (.int ka sL)) (hz:sL=(a:Int)) (ha:a≤xs.length)
  (h:O ro P fn n R ops l k ((d,.string (str (xs.drop a)))::σ) D g aa):O ro P fn n R ops (i::l) k σ D g aa:=by
 subst hz;have:=P0 (P:=P) (σ:=σ) (g:=g) (kl:=ka) (kh:=.i64) (a:=a) (b:=xs.length) ht hx (lo:=some y) (hi:=none) (fun _ h=>by cases h;exact hy) (fun h=>nomatch h) (fun _ h=>nomatch h) (fun _=>rfl) ha (Nat.le_refl _) aa;rw [List.take_length] at this;exact O.op ho this h
end
end Go.Sp
end
section
/- Texts of this proof. -/
namespace Go.Sp
def EK {α:Type} (T:ag α) (cs:List Value) (a:α):az:=fun m=>T.rel m cs a
section marks
variable {α:Type} (f:Int→Int→α)
def IN (k n:Nat):List α:=(List.range n).map fun (i:Nat)=>f (k:Int) (i:Int)
@[simp] theorem ahH (k n:Nat):(IN f k n).length=n:=by simp [IN]
def N7 (k n i:Nat):List α:=(List.range i).map fun (q:Nat)=>f (k:Int) ((n:Int)+(q:Int))
@[simp] theorem ahJ (k n i:Nat):(N7 f k n i).length=i:=by simp [N7]
def N6 (j n i:Nat):List α:=(List.range i).map fun (q:Nat)=>f ((j:Int)+(n:Int)) (q:Int)
@[simp] theorem ahI (j n i:Nat):(N6 f j n i).length=i:=by simp [N6]
def N4 (ns:List Nat) (k:Nat):List (List α):=(List.range k).map fun j=>IN f j (ns[j]?.getD 0)
@[simp] theorem ahG (ns:List Nat) (k:Nat):(N4 f ns k).length=k:=by simp [N4]
end marks
section
variable {ro:Option Nat} {P:Program} {fn:Func} {n:Nat} {R:Ending→World→Prop} {todo:List Item} {σ:List (Nat × Value)} {D:List Deferred} {g:bp} {aa ζ cL ai7:List az} {α:Type} {T:ag α} {K:Nat} {e:TypeId} {v u:Value} {xs ys:List α}
end
theorem aZ.mono {β α:Type} {A:β→α→az} {m k:Fr} (s:m.sub k):∀ {bs:List β} {as:List α},aZ A bs as m→aZ A bs as k
 |[],[],_=>trivial
 |[],_::_,h=>h.elim
 |_::_,[],h=>h.elim
 |_::_,_::_,h=>Sat.mono s h
theorem aZ.app {β α:Type} {A:β→α→az}:∀ {bs:List β} {as:List α} {bs' :List β} {as' :List α} {m:Fr},Sat [aZ A bs as,aZ A bs' as'] m→aZ A (bs++bs') (as++as') m
 |[],[],bs',as',m,h=>by
  obtain ⟨_,_,_,_,s2,_,h3,_,_,t,_,y,_⟩:=h;exact aZ.mono (Fr.bQ t s2) y
 |[],_::_,_,_,_,h=>by obtain ⟨_,_,_,_,_,x,_⟩:=h;exact x.elim
 |_::_,[],_,_,_,h=>by obtain ⟨_,_,_,_,_,x,_⟩:=h;exact x.elim
 |b::bs,a::as,bs',as',m,h=>by
  obtain ⟨h1,h2,d,s1,s2,x,y⟩:=h;have x' :Sat [A b a,aZ A bs as] h1:=x;obtain ⟨k1,k2,kd,t1,t2,p,aI,fo,Nq,u1,u2,q,_⟩:=x'
  show Sat [A b a,aZ A (bs++bs') (as++as')] m
  have d1:aI.ea h2:=Fr.eG d (Fr.bQ u1 t2) (Fr.bH _);refine ⟨k1,aI.add h2,Fr.qs (Fr.eG kd (Fr.bH _) u1) (Fr.eG d t1 (Fr.bH _)),Fr.bQ t1 s1,Fr.iK (Fr.bQ (Fr.bQ u1 t2) s1) s2,p,aI.add h2,Fr.emp,Fr.e7 (Fr.eA _),Fr.bH _,Fr.dY _,?_,trivial⟩;exact aZ.app ⟨aI,h2,d1,Fr.fi _ _,Fr.jw d1,q,y⟩
theorem aZ.map {β α γ δ:Type} {A:β→α→az} {B:γ→δ→az} {f:β→γ} {g:α→δ} (h:∀ b a m,A b a m→B (f b) (g a) m):∀ {bs:List β} {as:List α} {m:Fr},aZ A bs as m→aZ B (bs.map f) (as.map g) m
 |[],[],_,x=>x
 |[],_::_,_,x=>x.elim
 |_::_,[],_,x=>x.elim
 |b::bs,a::as,m,x=>by
  obtain ⟨h1,h2,d,s1,s2,p,h3,h4,d',t1,t2,q,_⟩:Sat [A b a,aZ A bs as] m:=x;exact ⟨h1,h2,d,s1,s2,h _ _ _ p,h3,Fr.emp,Fr.e7 (Fr.eA _),t1,Fr.dY _,aZ.map h q,trivial⟩
end Go.Sp
end
end
end
section
/- Texts of this proof. -/
namespace Go.Sp
theorem ag.rel.mono {α:Type} {T:ag α} {h k:Fr} {cs:List Value} {x:α} (r:T.rel h cs x) (s:h.sub k):T.rel k cs x:=T.mono s r
def iS {α:Type} (f:Int→α) (n:Nat):List α:=(List.range n).map fun (i:Nat)=>f (i:Int)
@[simp] theorem tP {α:Type} (f:Int→α) (n:Nat):(iS f n).length=n:=by simp [iS]
theorem AN {α:Type} (f:Int→α) (n:Nat):iS f n++[f (n:Int)]=iS f (n+1):=by simp [iS,List.range_succ]
theorem Dj {α:Type} (f:Int→α) (n i:Nat) (h:i<(iS f n).length):(iS f n)[i]=f (i:Int):=by simp [iS]
structure aM (α:Type) where
 fR:ag α
 own:List Value→α→az
 rd:Fr→List Value→α→Prop
 read:∀ {cs:List Value} {a:α} {m:Fr},own cs a m→rd m cs a
 mono:∀ {h k:Fr} {cs:List Value} {a:α},h.sub k→rd h cs a→rd k cs a
 rel:∀ {h:Fr} {cs:List Value} {a:α},rd h cs a→fR.rel h cs a
def aM.pure {α:Type} (T:ag α):aM α:={ fR:=T,own:=fun cs a _=>T.rel Fr.emp cs a,rd:=fun _ cs a=>T.rel Fr.emp cs a,read:=fun h=>h,mono:=fun _ h=>h,rel:=fun h=>T.mono (Fr.dY _) h }
def aM.unit:aM Unit:={ fR:=ag.unit,own:=fun cs _ _=>cs=[],rd:=fun _ cs _=>cs=[],read:=fun h=>h,mono:=fun _ h=>h,rel:=fun h=>h }
def aM.prod {α β:Type} (A:aM α) (B:aM β):aM (α × β) :=
 {fR:=ag.prod A.fR B.fR,own:=fun cs x m=>∃ c d,cs=c++d∧Sat [A.own c x.1,B.own d x.2] m
  rd:=fun h cs x=>∃ c d,cs=c++d∧A.rd h c x.1∧B.rd h d x.2
  read:=fun ⟨c,d,h,z⟩=>by
   obtain ⟨h1,h2,_,s1,s2,p,q⟩:=Sat.two.1 z;obtain ⟨h3,t,u⟩:=q;exact ⟨c,d,h,A.mono s1 (A.read p),B.mono (Fr.bQ t s2) (B.read u)⟩
  mono:=fun s ⟨c,d,h,x,y⟩=>⟨c,d,h,A.mono s x,B.mono s y⟩
  rel:=fun ⟨c,d,h,x,y⟩=>⟨c,d,h,A.rel x,B.rel y⟩ }
def jg {α:Type} (T:ag α) (e:TypeId) (f:Int→α) (v:Value) (xs:List α):az:=fun h=>∃ a c,xs.length+12≤c∧v=.slice a xs.length c∧ak T e (.slice a (xs.length+12) c) (xs++iS f 12) h
def kF {α:Type} (T:ag α) (f:Int→α) (h:Fr) (v:Value) (xs:List α):Prop:=∃ a c,xs.length+12≤c∧v=.slice a xs.length c∧av T h (.slice a (xs.length+12) c) (xs++iS f 12)
theorem jg.read {α:Type} {T:ag α} {e:TypeId} {f:Int→α} {v:Value} {xs:List α} {h:Fr}:jg T e f v xs h→kF T f h v xs
 |⟨a,c,h1,h2,h3⟩=>⟨a,c,h1,h2,h3.arr⟩
theorem kF.mono {α:Type} {T:ag α} {f:Int→α} {v:Value} {xs:List α} {h k:Fr} (s:h.sub k):kF T f h v xs→kF T f k v xs
 |⟨a,c,h1,h2,h3⟩=>⟨a,c,h1,h2,h3.mono s⟩
theorem kF.arr {α:Type} {T:ag α} {f:Int→α} {v:Value} {xs:List α} {h:Fr}:kF T f h v xs→av T h v xs
 |⟨a,c,h1,h2,h3⟩=>by subst h2;exact av.cut (ys:=iS f 12) rfl (by simpa using h3)
def aM.flat {α:Type} (T:ag α) (e:TypeId) (f:Int→α):aM (List α) :=
 {fR:=ag.slice T,own:=fun cs xs m=>∃ v,cs=[v]∧jg T e f v xs m,rd:=fun h cs xs=>∃ v,cs=[v]∧kF T f h v xs
  read:=fun ⟨v,h,x⟩=>⟨v,h,x.read⟩,mono:=fun s ⟨v,h,x⟩=>⟨v,h,x.mono s⟩,rel:=fun ⟨v,h,x⟩=>⟨v,h,x.arr⟩ }
def iI {α:Type} (L:aM α) (e:TypeId) (f:Int→α) (v:Value) (xs:List α):az:=fun m=>∃ a c aG cl,v=.slice a xs.length c∧xs.length+12≤c∧aG.length=xs.length∧cl.length=12 ∧
 Sat [ak (ag.cells L.fR.k) e (.slice a (xs.length+12) c) (aG++cl),aZ L.own aG xs,aZ (EK L.fR) cl (iS f 12)] m
def mC {α:Type} (L:aM α) (f:Int→α) (h:Fr) (v:Value) (xs:List α):Prop:=∃ a c aG cl,v=.slice a xs.length c∧xs.length+12≤c∧av (ag.cells L.fR.k) h (.slice a (xs.length+12) c) (aG++cl)∧cG (L.rd h) aG xs∧cG (L.fR.rel h) cl (iS f 12)
theorem iI.read {α:Type} {L:aM α} {e:TypeId} {f:Int→α} {v:Value} {xs:List α} {m:Fr}:iI L e f v xs m→mC L f m v xs
 |⟨a,c,aG,cl,h1,h2,h3,h4,x⟩=>by
  obtain ⟨m1,k1,_,s1,t1,y1,m2,k2,_,s2,t2,rj,uZ,aI,_,q6,_,rm,_⟩:=x;exact ⟨a,c,aG,cl,h1,h2,y1.arr.mono s1,aZ.sW (fun _ _ _ z q=>L.mono q (L.read z)) rj (Fr.bQ s2 t1),
   aZ.sW (fun _ _ _ z q=>L.fR.mono q z) rm (Fr.bQ q6 (Fr.bQ t2 t1))⟩
theorem mC.mono {α:Type} {L:aM α} {f:Int→α} {v:Value} {xs:List α} {h k:Fr} (s:h.sub k):mC L f h v xs→mC L f k v xs
 |⟨a,c,aG,cl,h1,h2,h3,h4,h5⟩=>⟨a,c,aG,cl,h1,h2,h3.mono s,h4.imp fun _ _=>L.mono s,h5.imp fun _ _=>L.fR.mono s⟩
theorem mC.arr {α:Type} {L:aM α} {f:Int→α} {v:Value} {xs:List α} {h:Fr}:mC L f h v xs→av L.fR h v xs
 |⟨a,c,aG,cl,h1,h2,h3,h4,h5⟩=>by
  subst h1;have hl:=h4.nI;have hd:=h5.nI.trans (tP f 12);exact av.pZ (aG:=aG) (k:=L.fR.k) (av.cut (ys:=cl) hl.symm (by rw [hl,hd];exact h3)) (h4.imp fun _ _=>L.rel) rfl
def aM.list {α:Type} (L:aM α) (e:TypeId) (f:Int→α):aM (List α) :=
 {fR:=ag.slice L.fR,own:=fun cs xs m=>∃ v,cs=[v]∧iI L e f v xs m,rd:=fun h cs xs=>∃ v,cs=[v]∧mC L f h v xs
  read:=fun ⟨v,h,x⟩=>⟨v,h,x.read⟩,mono:=fun s ⟨v,h,x⟩=>⟨v,h,x.mono s⟩,rel:=fun ⟨v,h,x⟩=>⟨v,h,x.arr⟩ }
theorem aM.yB {α β:Type} {A:aM α} {B:aM β} {c d:List Value} {x:α} {y:β} {m:Fr} (h:Sat [A.own c x,B.own d y] m):(aM.prod A B).own (c++d) (x,y) m:=⟨c,d,rfl,h⟩
theorem aM.tV {α β:Type} {T:ag α} {B:aM β} {c d:List Value} {x:α} {y:β} {m:Fr} (h:T.rel Fr.emp c x) (h2:B.own d y m):(aM.prod (aM.pure T) B).own (c++d) (x,y) m :=
 ⟨c,d,rfl,Fr.emp,m,Fr.eA _,Fr.dY _,Fr.bH _,h,m,Fr.emp,Fr.e7 (Fr.eA _),Fr.bH _,Fr.dY _,h2,trivial⟩
theorem vf {A:az} {ws:List az} {C:az} {m:Fr} (h:Sat (A::ws) m) (hC:∀ k,Sat ws k→C k):Sat [A,C] m:=by
 obtain ⟨h1,h2,d,s1,s2,x,y⟩:=h;exact ⟨h1,h2,d,s1,s2,x,h2,Fr.emp,Fr.e7 (Fr.eA _),Fr.bH _,Fr.dY _,hC _ y,trivial⟩
theorem aci {A:az} {m:Fr} (h:A m):Sat [A] m:=⟨m,Fr.emp,Fr.e7 (Fr.eA _),Fr.bH _,Fr.dY _,h,trivial⟩
theorem aM.ZS {α β:Type} {A:aM α} {B:aM β} {c d:List Value} {x:α × β × Unit} {m:Fr} (h:Sat [A.own c x.1,B.own d x.2.1] m):(aM.prod A (aM.prod B aM.unit)).own (c++d) x m :=
 ⟨c,d,rfl,vf h fun _ hk=>⟨d,[],(List.append_nil d).symm,vf hk fun _ _=>rfl⟩⟩
theorem aM.OW {α β:Type} {A:aM α} {B:aM β} {cs:List Value} {x:α × β × Unit} {h:Fr} (r:(aM.prod A (aM.prod B aM.unit)).rd h cs x):∃ c d,cs=c++d∧A.rd h c x.1∧B.rd h d x.2.1:=by
 obtain ⟨c,d,rfl,h1,c2,d2,rfl,h2,rfl⟩:=r;exact ⟨c,c2,by rw [List.append_nil],h1,h2⟩
theorem aZ.OG {α:Type} {T:ag α}:∀ {bs:List (List Value)} {as:List α} {m:Fr},cG (T.rel Fr.emp) bs as→aZ (EK T) bs as m
 |[],[],_,_=>trivial
 |_::_,_::_,m,⟨h,t⟩=>⟨Fr.emp,m,Fr.eA _,Fr.dY _,Fr.bH _,h,m,Fr.emp,Fr.e7 (Fr.eA _),Fr.bH _,Fr.dY _,aZ.OG t,trivial⟩
theorem ack {A B C:az} {m:Fr} (h:Sat [A,B] m) (hC:C Fr.emp):Sat [A,B,C] m:=by
 obtain ⟨h1,h2,d,s1,s2,x,h3,h4,d2,t1,t2,y,_⟩:=h;exact ⟨h1,h2,d,s1,s2,x,h3,Fr.emp,Fr.e7 (Fr.eA _),t1,Fr.dY _,y,Fr.emp,Fr.emp,Fr.eA _,Fr.bH _,Fr.bH _,hC,trivial⟩
theorem iI.fold {α:Type} {L:aM α} {e:TypeId} {f:Int→α} {a:Option Addr} {c:Nat} {xs:List α} {aG cl:List (List Value)} {m:Fr} (hr:xs.length+12≤c) (hc:aG.length=xs.length) (hd:cG (L.fR.rel Fr.emp) cl (iS f 12))
  (h:Sat [ak (ag.cells L.fR.k) e (.slice a (xs.length+12) c) (aG++cl),aZ L.own aG xs] m):iI L e f (.slice a xs.length c) xs m :=
 ⟨a,c,aG,cl,rfl,hr,hc,hd.nI.trans (tP f 12),ack h (aZ.OG hd)⟩
theorem cG.vF {α β:Type} {R:α→β→Prop}:∀ {xs:List α} {ys:List β} (_:cG R xs ys) (i:Nat) (hx:i<xs.length) (hy:i<ys.length),R xs[i] ys[i]
 |_::_,_::_,⟨h,_⟩,0,_,_=>h
 |_::_,_::_,⟨_,t⟩,i+1,hx,hy=>cG.vF t i (Nat.lt_of_succ_lt_succ hx) (Nat.lt_of_succ_lt_succ hy)
theorem aQ.kx {α β:Type} {T:ag α} {B:aQ β} {c d:List Value} {x:α} {y:β} {W:List az} (h:T.rel Fr.emp c x) (hB:∀ m,Sat W m→B.own d y m):∀ m,Sat W m→(aQ.prod (aQ.pure T) B).own (c++d) (x,y) m:=fun m s=>aQ.tV h (hB m s)
theorem aQ.j6 {α β:Type} {A:aQ α} {B:aQ β} {c d:List Value} {x:α} {y:β} {w:az} {W:List az} (hA:∀ m,w m→A.own c x m) (hB:∀ m,Sat W m→B.own d y m):∀ m,Sat (w::W) m→(aQ.prod A B).own (c++d) (x,y) m :=
 fun _ ⟨k1,k2,zL,s1,s2,o,st⟩=>⟨c,d,rfl,k1,k2,zL,s1,s2,hA _ o,k2,Fr.emp,Fr.e7 (Fr.eA _),Fr.bH _,Fr.dY _,hB _ st,trivial⟩
theorem aQ.yw {α β:Type} {A:aQ α} {B:aQ β} {c d:List Value} {x:α} {y:β} {ws W:List az} (hA:∀ m,Sat ws m→A.own c x m) (hB:∀ m,Sat W m→B.own d y m):∀ m,Sat (ws++W) m→(aQ.prod A B).own (c++d) (x,y) m:=fun _ s=>by
 obtain ⟨k1,k2,zL,s1,s2,o,st⟩:=Sat.split s;exact ⟨c,d,rfl,k1,k2,zL,s1,s2,hA _ o,k2,Fr.emp,Fr.e7 (Fr.eA _),Fr.bH _,Fr.dY _,hB _ st,trivial⟩
theorem aM.kx {α β:Type} {T:ag α} {B:aM β} {c d:List Value} {x:α} {y:β} {W:List az} (h:T.rel Fr.emp c x) (hB:∀ m,Sat W m→B.own d y m):∀ m,Sat W m→(aM.prod (aM.pure T) B).own (c++d) (x,y) m:=fun m s=>aM.tV h (hB m s)
theorem aM.j6 {α β:Type} {A:aM α} {B:aM β} {c d:List Value} {x:α} {y:β} {w:az} {W:List az} (hA:∀ m,w m→A.own c x m) (hB:∀ m,Sat W m→B.own d y m):∀ m,Sat (w::W) m→(aM.prod A B).own (c++d) (x,y) m :=
 fun _ ⟨k1,k2,zL,s1,s2,o,st⟩=>⟨c,d,rfl,k1,k2,zL,s1,s2,hA _ o,k2,Fr.emp,Fr.e7 (Fr.eA _),Fr.bH _,Fr.dY _,hB _ st,trivial⟩
end Go.Sp
end
end
end
