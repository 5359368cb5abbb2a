/- Texts of this proof, one behind the other. -/
import Derived.Test.YtojafegjlahajaaGreatDoorQSpOwn
import Derived.Lib.ConvBytes
import Derived.RangeFuncRecord
set_option linter.unusedSectionVars false
section
/- Texts of this proof, one behind the other. -/
section
/- Texts of this proof, one behind the other. -/
section
/- Texts of this proof. -/
namespace Go.Sp
section
variable {ro:Option Nat} {P:Program} {σ σ' :List (Nat × Value)} {g:bk} {U ax ζ aO:List az} {t e:TypeId} {x y:Operand}
theorem aF.Wo {k:Nat} {kh:IntKind} {m:Nat} (ht:P.underlying t=some (.slice e)) (he:(P.info? e).map (·.size)=some k) (hx:aA σ x=some (.slice none 0 0)) (hy:aA σ y=some (.int kh (m:Int))) (hm:m=0) :
  aF P (.slice t x none (some y) none) σ g U (.slice none 0 0) U:=by
 subst hm;exact .run fun o ρ w ho hk=>by simp [execOp,ho,hk x _ hx,hk y _ hy,Instr.sliceAt,run_underlying ht,Instr.slice,Instr.sliceBounds,Instr.sliceBound,asIntOf,run_sizeOf he]
theorem bC.Mc {α:Type} {T:ag α} {cn:Nat} {z:List Value} {a:α} {m:Nat} {t2:TypeId} {xW qb:IntKind} (ht:P.underlying t=some (.slice e)) (ht2:P.underlying t2=some (.int xW)) (he:dG P e T.k cn z) (hk:0<T.k) (hz:T.rel Fr.emp z a)
  (hx:aA σ x=some (.slice none 0 0)) {b_:Int} (hy:aA σ y=some (.int qb b_)) (dV:b_=(m:Int)) (hb:m*cn≤140737488355328) (h63:m≤9223372036854775807) (h0:0<m) :
  bC P (.call ⟨.builtin .append,#[x,y],#[t,t2]⟩) σ g U fun v' ax =>∃ a' c,v' =.slice a' m c∧ax =av T e v' (List.replicate m a)::U:=by
 subst dV
 intro o ρ w ho hkn hw
 obtain ⟨i,cw,hi,r0,hsz,hby,kM,hzl⟩:=he;subst hby kM;have hzs:cw.cells.size=T.k:=by simpa using hzl
 have wl:IntKind.i64.wrap (m:Int)=m:=by rw [IntKind.wrap_i64];omega
 have n1:¬ ((m:Int)<0):=by omega
 have n2:¬ (281474976710656<(m:Int)*(i.bytes:Int)):=by
  have:((m*i.bytes:Nat):Int)≤140737488355328:=by omega
  rw [Int.natCast_mul] at this;omega
 have n3:m≠0:=by omega
 have pL:¬ (9223372036854775807<(m:Int)):=by omega
 have n5:¬ (281474976710656<Builtin.nextslicecap m 0*i.bytes):=by rw [nextslicecap_zero h0];omega
 have n6:m*i.size≠0:=by rw [hsz];exact Nat.ne_of_gt (Nat.mul_pos h0 hk)
 have hge:=grownCap_ge w m 0 e;have hcm:=grownCap_le_maxLen w m 0 e (by simpa [maxLen] using h63);have hrun:(Builtin.append_ #[t,t2] o.type #[.slice none 0 0,.int qb (m:Int)]).run P w=.ok (.slice (some ⟨w.heap.size,0,none⟩) m (grownCap w m 0 e)) (w.drew.alloc (.cells (Builtin.zeroCells cw.cells m++Builtin.zeroCells cw.cells (grownCap w m 0 e - m)) e)):=by
  simp [Builtin.append_,run_underlying ht,run_underlying ht2,sizeOf,typeInfo,zeroValue,hi,r0,asInt,asIntOf,wl,n1,n2,n3,pL,n5,n6,Question.forced,Builtin.firstCells,newRow,grownCap]
 obtain ⟨ak,q1,q2⟩:=AV hz m;have p9:∀ q,(Builtin.zeroCells cw.cells q).toList=fe cw.cells.toList q:=fun q=>by
  have:=x7 cw.cells q (by omega);rw [← this];rfl
 refine ⟨_,_,_,⟨_,_,rfl,rfl⟩,qh ho (by rw [hkn x _ hx,hkn y _ hy];exact hrun),?_⟩;refine (((hw.drewN _ (Nat.le_add_right _ _)).alloc _).own (k:=T.k) (m:=m) (cap:=grownCap w m 0 e) (cs:=ak.flatten) hge (by simpa [maxLen] using hcm) ?_ ?_).imp fun _=>Sat.fk (av.of q1 (by simp) rfl rfl) fun _ q=>q
 ·simp only [Array.size_append,size_zeroCells,hzs,← Nat.add_mul]
  congr 1;omega
 ·rw [Array.toList_append,p9,q2,List.take_append]
  rw [List.take_of_length_le (by rw [r8];simp [hzs]),r8]
  simp [hzs]
theorem bC.Nx {α:Type} {T:ag α} {v:Value} {xs:List α} {m:Nat} {kh:IntKind} {b_:Int} (ht:P.underlying t=some (.slice e)) (he:(P.info? e).map (·.size)=some T.k) (hx:aA σ x=some v) (hy:aA σ y=some (.int kh b_)) (dV:b_=(m:Int))
  (hs:a_ U (av T e v xs) ζ) (hm:m≤xs.length):bC P (.slice t x none (some y) none) σ g U fun v' ax =>∃ a c,v' =.slice a m c∧ax =av T e v' (xs.take m)::ζ:=by
 subst dV
 intro o ρ w ho hk hw
 obtain ⟨p1,p2,p3,K,oe,s1,s2,k1,k2,kd,t1,t2,⟨ak,ha,hl,hA⟩,hr⟩:=hw.cr hs;have hml:m*T.k≤xs.length*T.k:=Nat.mul_le_mul_right _ hm;have hmin:min m xs.length=m:=Nat.min_eq_left hm
 rcases hA with ⟨rfl,h0⟩|⟨b,cap,cur,rfl,hb,h1,h2,h3,h4⟩
 ·have hm0:m=0:=by omega
  subst hm0;refine ⟨.slice none 0 0,w,_,⟨none,0,rfl,rfl⟩,?_,p1,p2,p3,K,oe,s1,s2,k1,k2,kd,t1,t2,⟨[],trivial,by simp,.inl ⟨rfl,by simp⟩⟩,hr⟩
  simp [execOp,ho,hk x _ hx,hk y _ hy,Instr.sliceAt,run_underlying ht,Instr.slice,Instr.sliceBounds,Instr.sliceBound,asIntOf,run_sizeOf he]
 ·have zT:m≤cap:=by omega
  refine ⟨.slice (some ⟨b,0,none⟩) m cap,w,_,⟨_,_,rfl,rfl⟩,?_,p1,p2,p3,K,oe,s1,s2,k1,k2,kd,t1,t2,⟨ak.take m,ha.take m,?_,.inr ⟨b,cap,cur,?_,hb,?_,h2,h3,?_⟩⟩,hr⟩
  ·have e1:(⟨b,0,none⟩:Addr).add 0=⟨b,0,none⟩:=rfl
   simp [execOp,ho,hk x _ hx,hk y _ hy,Instr.sliceAt,run_underlying ht,Instr.slice,Instr.sliceBounds,Instr.sliceBound,asIntOf,run_sizeOf he,zT,e1]
  ·rw [← ha.s9,List.length_take,hl,List.length_take,hmin];exact Nat.min_eq_left hml
  ·rw [List.length_take,hmin]
  ·rw [List.length_take,hmin];exact zT
  ·rw [List.length_take,hmin,← ha.s9,← h4,List.take_take,Nat.min_eq_left hml]
end
theorem Sat.tail' {A:az} {U:List az} {m:Fr}:Sat (A::U) m→Sat U m:=fun ⟨_,_,_,_,s,_,y⟩=>Sat.mono s y
theorem gf {b:Nat} {T:TypeId} {cs:List Value} {m:Fr} (h:obj b T cs m):At m ⟨b,0,none⟩ cs:=fun j hj=>by
 rw [add_lit];have:m b=some (.cells cs.toArray T (0,0)):=h
 simp [Fr.cell,this,hj]
theorem Ax {b:Nat} {T:TypeId} {cs:List Value} {h m:Fr} (x:obj b T cs m) (hd:h.cR m):At (h.add m) ⟨b,0,none⟩ cs:=(gf x).mono (Fr.dL hd)
theorem At.left {h m:Fr} {p:Addr} {cs:List Value} (x:At h p cs):At (h.add m) p cs:=x.mono (Fr.de _ _)
theorem Holds.ic {w:World} {g:bk} {U:List az} {k:Fr} (h:Holds w (g.add k) U) (hd:g.h.cR k):Holds w g U:=(h.oH (A:=fun _=>True) trivial hd).drop
inductive jL:List az→List az→Prop
 |all {U:List az}:jL U U
 |nil {U:List az}:jL U []
 |cons {U ζ bs:List az} {A:az} (h:a_ U A ζ) (h2:jL ζ bs):jL U (A::bs)
 |skip {U bs:List az} {A:az} (h:jL U bs):jL (A::U) bs
theorem Sat.jU {U bs:List az} (p:jL U bs):∀ {h:Fr},Sat U h→Sat bs h:=by
 induction p with
 |all=>exact fun x=>x
 |nil=>exact fun _=>trivial
 |cons s p ih=>exact fun x=>Sat.fk (fun _ y=>y) (fun _=>ih) (Sat.perm s.perm x)
 |skip p ih=>exact fun x=>ih x.tail'
theorem Holds.jU {w:World} {g:bk} {U bs:List az} (h:Holds w g U) (p:jL U bs):Holds w g bs:=h.imp fun _=>Sat.jU p
theorem Holds.end_ {w:World} {g:bk} {U:List az} {Post:Ending→List az→Prop} {R:Ending→World→Prop} {e:Ending} (hR:∀ e ax w',Post e ax →Holds w' g ax →R e w') (hw:Holds w g U) (h:∃ ax,Post e ax ∧jL U ax):R e w :=
 let ⟨_,p,q⟩:=h;hR _ _ w p (hw.jU q)
theorem Holds.fst {w:World} {g:bk} {A:az} {U:List az} (h:Holds w g (A::U)):Holds w g [A]:=h.imp fun _=>Sat.fk (fun _ x=>x) fun _ _=>trivial
theorem Holds.Ob {w:World} {g:bk} {A B:az} {U:List az} (h:Holds w g (A::B::U)):Holds w g [A,B]:=h.imp fun _=>Sat.fk (fun _ x=>x) fun _=>Sat.fk (fun _ x=>x) fun _ _=>trivial
theorem Sat.arr {α:Type} {T:ag α} {e:TypeId} {v:Value} {xs:List α} {U:List az} {m:Fr}:Sat (av T e v xs::U) m→aj T m v xs
 |⟨_,_,_,s,_,x,_⟩=>(av.arr x).mono s
theorem Sat.tail {A:az} {U:List az} {m:Fr}:Sat (A::U) m→Sat U m
 |⟨_,_,_,_,s,_,y⟩=>y.mono s
theorem aj.left {α:Type} {T:ag α} {v:Value} {xs:List α} {h m:Fr} (x:aj T h v xs):aj T (h.add m) v xs:=x.mono (Fr.de _ _)
theorem aj.right {α:Type} {T:ag α} {v:Value} {xs:List α} {h m:Fr} (x:aj T m v xs) (hd:h.cR m):aj T (h.add m) v xs:=x.mono (Fr.dL hd)
theorem bp {g g' :bk} {Post:Ending→List az→Prop} {R:Ending→World→Prop} (hR:∀ e ax w',Post e ax →Holds w' g ax →R e w') (hm:∀ w ζ,Holds w g' ζ→Holds w g ζ) :
  ∀ e ax w',Post e ax →Holds w' g' ax →R e w' :=fun e ax w' p h=>hR e ax w' p (hm w' ax h)
theorem dH {g g' HM :bk} (h1:∀ w ζ,Holds w g' ζ→Holds w g ζ) (h2:∀ w ζ,Holds w HM ζ→Holds w g' ζ):∀ w ζ,Holds w HM ζ→Holds w g ζ:=fun w ζ h=>h1 w ζ (h2 w ζ h)
theorem cL {g:bk}:∀ w ζ,Holds w g ζ→Holds w g ζ:=fun _ _ h=>h
section
variable {ro:Option Nat} {P:Program} {fn:Func} {n:Nat} {R:Ending→World→Prop} {k:List Item} {σ:List (Nat × Value)} {D:List Deferred} {g:bk} {U ζ:List az} {ops:Array Oper} {L:List Nat}
theorem S.ic {g' :bk} {todo:List Item} (hm:∀ w ζ,Holds w g' ζ→Holds w g ζ) (h:S ro P fn n R todo σ D g U):S ro P fn n R todo σ D g' U:=fun a w hf hd hw=>h a w hf hd (hm _ _ hw)
theorem S.pk {todo:List Item} (p:jL U ζ) (h:S ro P fn n R todo σ D g ζ):S ro P fn n R todo σ D g U:=fun a w hf hd hw=>h a w hf hd (hw.jU p)
theorem S.d_ {todo:List Item} {A:az} (s:a_ U A ζ) (h:∀ g' :bk,g.h.sub g'.h→(∀ w ζ,Holds w g' ζ→Holds w g ζ)→(∃ m:Fr,A m∧m.sub g'.h)→S ro P fn n R todo σ D g' ζ):S ro P fn n R todo σ D g U :=
 S.cr s (S.freeze fun m hm hd=>h (g.add m) (Fr.de _ _) (fun _ _ x=>x.ic hd) ⟨m,hm,Fr.dL hd⟩)
theorem O.d_ {A:az} (s:a_ U A ζ) (h:∀ g' :bk,g.h.sub g'.h→(∀ w ζ,Holds w g' ζ→Holds w g ζ)→(∃ m:Fr,A m∧m.sub g'.h)→O ro P fn n R ops L k σ D g' ζ):O ro P fn n R ops L k σ D g U :=
 O.cr s (O.freeze fun m hm hd=>h (g.add m) (Fr.de _ _) (fun _ _ x=>x.ic hd) ⟨m,hm,Fr.dL hd⟩)
theorem S.fo {todo:List Item} {α:Type} {T:ag α} {e:TypeId} {v:Value} {xs:List α} (s:a_ U (av T e v xs) ζ) (h:∀ g' :bk,g.h.sub g'.h→(∀ w ζ,Holds w g' ζ→Holds w g ζ)→aj T g'.h v xs→S ro P fn n R todo σ D g' ζ):S ro P fn n R todo σ D g U :=
 S.d_ s fun g' h1 h2 ⟨_,h3,h4⟩=>h g' h1 h2 (h3.arr.mono h4)
theorem O.fo {α:Type} {T:ag α} {e:TypeId} {v:Value} {xs:List α} (s:a_ U (av T e v xs) ζ) (h:∀ g' :bk,g.h.sub g'.h→(∀ w ζ,Holds w g' ζ→Holds w g ζ)→aj T g'.h v xs→O ro P fn n R ops L k σ D g' ζ):O ro P fn n R ops L k σ D g U :=
 O.d_ s fun g' h1 h2 ⟨_,h3,h4⟩=>h g' h1 h2 (h3.arr.mono h4)
theorem O.Oa {α:Type} {T:ag α} {v:Value} {xs:List α} (s:a_ U (fun m=>aj T m v xs) ζ) (h:∀ g' :bk,g.h.sub g'.h→(∀ w ζ,Holds w g' ζ→Holds w g ζ)→aj T g'.h v xs→O ro P fn n R ops L k σ D g' ζ):O ro P fn n R ops L k σ D g U :=
 O.d_ s fun g' h1 h2 ⟨_,h3,h4⟩=>h g' h1 h2 (h3.mono h4)
theorem S.cW {todo:List Item} {b:Nat} {T:TypeId} {cs:List Value} (s:a_ U (obj b T cs) ζ) (h:∀ g' :bk,g.h.sub g'.h→(∀ w ζ,Holds w g' ζ→Holds w g ζ)→At g'.h ⟨b,0,none⟩ cs→S ro P fn n R todo σ D g' ζ):S ro P fn n R todo σ D g U :=
 S.d_ s fun g' h1 h2 ⟨_,h3,h4⟩=>h g' h1 h2 ((gf h3).mono h4)
theorem O.cW {b:Nat} {T:TypeId} {cs:List Value} (s:a_ U (obj b T cs) ζ) (h:∀ g' :bk,g.h.sub g'.h→(∀ w ζ,Holds w g' ζ→Holds w g ζ)→At g'.h ⟨b,0,none⟩ cs→O ro P fn n R ops L k σ D g' ζ):O ro P fn n R ops L k σ D g U :=
 O.d_ s fun g' h1 h2 ⟨_,h3,h4⟩=>h g' h1 h2 ((gf h3).mono h4)
end
theorem aS {U:List az}:jL U U:=.all
theorem aU {U:List az}:jL U []:=.nil
theorem aT {U ζ aO:List az} {A:az} (h:a_ U A ζ) (k:jL ζ aO):jL U (A::aO):=.cons h k
theorem aV {A:az} {U aO:List az} (k:jL U aO):jL (A::U) aO:=.skip k
end Go.Sp
end
section
/- Texts of this proof. -/
namespace Go.Sp
theorem ED {P:Program} {fn:Func} {tmps:Array Value} {R:Ending→World→Prop}:∀ (ds:List Deferred) (u:FrameMode) (w:World) (fr:Frame)
  (cs:List Frame),fr.mode=u→fr.defers=ds→fr.tmps=tmps→P.funcs[fr.fn]?=some fn→fr.kind=.deferred→eP P fn tmps R ds u w →
  ∃ e w' fr',R e w' ∧Comes P (lone fr cs w) (lone fr' cs w') e∧fr'.kind=.deferred∧fr'.going P w' e:=by
 intro ds
 induction ds with
 |nil =>
  intro u w fr cs hu hd ht hf hk h
  cases u with
  |run=>exact h.elim
  |returning =>
   obtain ⟨v,hr,hR⟩:=h;exact ⟨.returned v,w,fr,hR,Steps.refl P _,hk,hu,hd,fn,hf,ht ▸ hr⟩
  |panicking chain=>exact ⟨.panicked chain,w,fr,h,Steps.refl P _,hk,hu,hd,fn,hf⟩
 |cons d ds ih =>
  intro u w fr cs hu hd ht hf hk h
  obtain ⟨hrun,h⟩:=h
  rcases h with ⟨r,w',tT,Em,Ei⟩|⟨fv,cap,f,args,tT,hinv,tC⟩
  ·have h1:=step_collected (cs:=cs) (hu ▸ hrun) hd tT Em
   obtain ⟨e',w'',fr',pg,hs',og,hl'⟩:=ih u w' { fr with defers:=[]++ds } cs hu rfl ht hf hk Ei;exact ⟨e',w'',fr',pg,Comes.of_steps (.one h1) hs',og,hl'⟩
  have h1:=step_defer (cs:=cs) (hu ▸ hrun) hd tT hinv;obtain ⟨e,u',w',N8,hR,qS,DC,xu⟩:=tC { fr with defers:=ds } cs hu
  cases e with
  |returned v =>
   have h2:=step_going_returned (c:={ { fr with defers:=ds } with mode:=u' }) (cs:=cs) DC xu;obtain ⟨e',w'',fr',pg,hs',og,hl'⟩:=ih (settle u') w' { { { fr with defers:=ds } with mode:=u' } with mode:=settle u' } cs rfl rfl ht hf hk hR;exact ⟨e',w'',fr',pg,Comes.of_steps (.head h1 (Steps.trans qS (.one h2))) hs',og,hl'⟩
  |panicked chain =>
   have h2:=step_going_panicked (c:={ { fr with defers:=ds } with mode:=u' }) (cs:=cs) xu;obtain ⟨e',w'',fr',pg,hs',og,hl'⟩:=ih (raised u' chain) w' { { { fr with defers:=ds } with mode:=u' } with mode:=raised u' chain } cs rfl rfl ht hf hk hR;exact ⟨e',w'',fr',pg,Comes.of_steps (.head h1 (Steps.trans qS (.one h2))) hs',og,hl'⟩
  |outgrown=>exact ⟨.outgrown,w',fr,hR,Outgrown.of_steps (.one h1) qS,hk,trivial⟩
def mV:FrameMode→Value
 |.panicking ({ v,recovered:=false,goexit:=false }::_)=>v
 |_=>.nilIface
def lK:FrameMode→FrameMode
 |.panicking ({ v,recovered:=false,goexit:=false }::older)=>.panicking ({ v,recovered:=true }::older)
 |u=>u
def Ku (ops:Array Oper) (n:Nat):Option (Nat × Nat) :=
 match (ops[0]?:Option Oper),(ops[1]?:Option Oper),(ops[2]?:Option Oper) with
 |some ⟨some d,.call ⟨.builtin .recover,_,_⟩,_,_,_,none⟩,some ⟨some e,.assign (.tmp d'),_,_,_,none⟩,none =>
  match Nat.beq d d',Nat.blt d n,Nat.blt e n with|true,true,true=>some (d,e)|_,_,_=>none
 |_,_,_=>none
theorem Ve (c:Frame) (cs:List Frame):recoverD (c::cs)=none∧mV c.mode=.nilIface∧lK c.mode=c.mode∨recoverD (c::cs)=some (mV c.mode,{ c with mode:=lK c.mode }::cs):=by
 obtain ⟨fn,tmps,todo,defers,mode,kind,ro⟩:=c;unfold recoverD mV lK
 cases mode with
 |run=>left;simp
 |returning=>left;simp
 |panicking ch =>
  cases ch with
  |nil=>left;simp
  |cons p older =>
   obtain ⟨v,r,ge⟩:=p
   cases r<;>cases ge<;>simp
theorem oa {P:Program} {f:FuncId} {fn:Func} {id:Nat} {ops:Array Oper} {rest:Code} {args:Array Value} {u:FrameMode} {w:World} {R:Ending→World→Prop} {n d e:Nat} (vs:List Value) (ha:args=vs.toArray)
  (hf:P.funcs[f]?=some fn) (hb:fn.body=some (.seq (.region id ops false) rest)) (hn:fn.ntmps=n) (hle:Nat.ble vs.length n=true) (nJ:Ku ops n=some (d,e))
  {g:bk} {U:List az} (hw:Holds w g U)
  (h:S none P fn n R [.code rest] ((e,mV u)::(d,mV u)::slots vs 0) [] g U) :
  CallsD P f args u w fun e' u' w' =>u' =lK u∧R e' w' :=by
 intro c cs Pg
 let b:Frame:={ (default:Frame) with fn:=f,kind:=.deferred }
 subst ha hn
 let a₀:Act:={ tmps:=vs.toArray++Array.replicate (fn.ntmps - vs.toArray.size) undef,defers:=[] }
 have xm:Frame.enter P f vs.toArray .deferred=b.at a₀ [.code (.seq (.region id ops false) rest)]:=by
  simp [Frame.enter,Frame.at,hf,hb,b,a₀]
 have hfit:Fits a₀ fn.ntmps (slots vs 0):=by
  refine ⟨?_,?_⟩
  ·have:vs.length≤fn.ntmps:=Nat.le_of_ble_eq_true hle
   simp [a₀];omega
  ·intro t v hl
   obtain ⟨_,h2⟩:=EJ vs 0 t v hl;simp only [Nat.sub_zero] at h2;have:t<vs.length:=by
    rcases Nat.lt_or_ge t vs.length with q|q
    ·exact q
    ·rw [List.getElem?_eq_none q] at h2;cases h2
   simp only [a₀];rw [Array.getElem?_append_left (by simpa using this)]
   simpa using h2
 unfold Ku at nJ
 split at nJ
 case h_2=>cases nJ
 rename_i d1 XH Xi aav pos1 XZ e1 d1' aaw pos2 X0 DJ zY tG
 split at nJ
 case h_2=>cases nJ
 rename_i hq1 tM z7
 cases nJ
 have:=Nat.eq_of_beq_eq_true hq1;subst this;have hsz:ops.size=2:=by
  have h1:=(Array.getElem?_eq_some_iff.1 zY).1;have h2:=Array.getElem?_eq_none_iff.1 tG
  omega
 let a₁:Act:=a₀.put (some d) (mV u)
 let a₂:Act:=a₁.put (some e) (mV u)
 have p7:Fits a₁ fn.ntmps ((d,mV u)::slots vs 0):=hfit.put tM;have vv:Fits a₂ fn.ntmps ((e,mV u)::(d,mV u)::slots vs 0):=p7.put z7;have DO:wpOpsS P ops (fun x a' cs' w' =>x=.normal∧a' =a₂∧cs' ={ c with mode:=lK u }::cs∧w' =w) [0,1] a₀ (c::cs) w:=by
  have It:a₁.eval (.tmp d)=mV u:=p7.eval (x:=.tmp d) (by simp [aA,look]);have hcm:{ c with mode:=lK u }=c∨True:=.inr trivial;simp only [wpOpsS,DJ,zY,Region.wanted,if_true];have QJ:∀ o:Oper,o.op=.call ⟨.builtin .recover,XH,Xi⟩→(execOp a₀.eval o).run P w=.ok .recover w:=fun o ho=>by
   simp [execOp,ho,resolve,invoke,builtin]
  rw [QJ _ rfl];subst Pg
  rcases Ve c cs with ⟨q1,q2,cF⟩|q1
  ·simp only [q1]
   have Ek:∀ o:Oper,o.op=.assign (.tmp d)→(execOp (a₀.put (some d) .nilIface).eval o).run P w=.ok (.value (mV c.mode)) w:=fun o ho=>by
    rw [← q2];simp [execOp,ho];exact It
   rw [Ek _ rfl];simp only [Oper.upon_value];refine ⟨trivial,?_,?_,trivial⟩
   ·simp only [a₂,a₁,q2]
   ·rw [cF]
  ·simp only [q1]
   have Ek:∀ o:Oper,o.op=.assign (.tmp d)→(execOp (a₀.put (some d) (mV c.mode)).eval o).run P w=.ok (.value (mV c.mode)) w:=fun o ho=>by
    simp [execOp,ho];exact It
   rw [Ek _ rfl];simp only [Oper.upon_value];exact ⟨trivial,rfl,trivial,trivial⟩
 obtain ⟨x,a',cs',w',⟨rfl,rfl,rfl,rfl⟩,gB⟩:=wp_opsS (P:=P) (Q:=fun x a' cs' w' =>x=.normal∧a' =a₂∧cs' ={ c with mode:=lK u }::cs∧w' =w) [0,1] a₀ (c::cs) w DO b [.code rest] rfl rfl;have hstart:Steps P (lone (Frame.enter P f vs.toArray .deferred) (c::cs) w') (lone (b.at a₂ [.code rest]) ({ c with mode:=lK u }::cs) w'):=by
  rw [xm];have hr:List.range ops.size=[0,1]:=by rw [hsz];rfl
  exact .head step_seq (.head step_region (by rw [hr];exact gB))
 obtain ⟨x,a',w'',hq,tu⟩:=h a₂ w' vv rfl hw b ({ c with mode:=lK u }::cs) rfl ⟨fn,hf⟩;have tu:=(arrivesIn_iff (I:=Machine.fenced P Fence.wide) (fun _ _=>stepsIn_wide) rfl).1 tu;rw [Frame.atR_of_none rfl] at tu
 cases x with
 |normal =>
  obtain ⟨e',w3,fr',hR,hs,hk,hg⟩:=ED a'.defers .returning w'' { b.at a' [] with mode:=.returning } ({ c with mode:=lK u }::cs) rfl rfl rfl hf rfl hq;exact ⟨e',lK u,w3,fr',⟨rfl,hR⟩,Comes.of_steps (hstart.trans (Steps.trans tu (.one step_end))) hs,hk,hg⟩
 |ret =>
  obtain ⟨todo,tQ⟩:=tu;obtain ⟨e',w3,fr',hR,hs,hk,hg⟩:=ED a'.defers .returning w'' { b.at a' todo with mode:=.returning } ({ c with mode:=lK u }::cs) rfl rfl rfl hf rfl hq;exact ⟨e',lK u,w3,fr',⟨rfl,hR⟩,Comes.of_steps (hstart.trans tQ) hs,hk,hg⟩
 |panic chain =>
  obtain ⟨todo,tQ⟩:=tu;obtain ⟨e',w3,fr',hR,hs,hk,hg⟩:=ED a'.defers (.panicking chain) w'' { b.at a' todo with mode:=.panicking chain } ({ c with mode:=lK u }::cs) rfl rfl rfl hf rfl hq;exact ⟨e',lK u,w3,fr',⟨rfl,hR⟩,Comes.of_steps (hstart.trans tQ) hs,hk,hg⟩
 |exit _=>exact hq.elim
 |goto _=>exact hq.elim
 |outgrown=>exact ⟨.outgrown,lK u,w'',b,⟨rfl,hq⟩,Outgrown.of_steps hstart (tu.resolve_left (by simp [b])),rfl,trivial⟩
section
variable {ro:Option Nat} {P:Program} {fn:Func} {n:Nat} {R:Ending→World→Prop} {k:List Item} {σ:List (Nat × Value)} {D:List Deferred} {g:bk} {U ζ:List az}
 {ops:Array Oper} {i d:Nat} {l:List Nat} {f:FuncId} {x y:Operand} {xs:Array Operand} {ts:Array TypeId} {bF:List Value} {K:Value→List az→Prop} {t:TypeId}
theorem O.defer {first cap:Array Value} (ho:ko ops i=some (.defer ⟨.value x,xs,ts⟩)) (hx:aA σ x=some (.func (.func f) first cap)) (hv:dS σ xs.toList=some bF) {args:Array Value} (hargs:first++bF.toArray=args)
  (h:O none P fn n R ops l k σ (⟨.fn (.func f) cap,args⟩::D) g U):O none P fn n R ops (i::l) k σ D g U:=by
 intro a w hf hd hw
 obtain ⟨o,hi,eB,hop,hg⟩:=pM ho;simp only [wpOpsIn,hi,Region.wanted,hg,if_true];refine ⟨fun _ _=>trivial,?_⟩;have hm:xs.map a.eval=bF.toArray:=by rw [← qG hf.kn hv,← Array.toList_map]
 have hrun:(execOp a.eval o).run P w=.ok (.defer ⟨.fn (.func f) cap,args⟩) w:=by
  simp [execOp,hop,resolve,hf.eval hx,Deferred.ofValue,hm,hargs]
 show o.uponIn (nk none) 0 P a _ _ ((o.semAt none a.eval).run P w)
 rw [Oper.semAt_none,hrun,Oper.uponIn_defer,eB];exact h _ w ⟨hf.1,hf.2⟩ (by simp [Act.put,hd]) hw
def sP (g:bk) (b:Nat) (R:Ending→World→Prop) (e:Ending) (u:FrameMode) (w:World):Prop :=
 (∃ v,e=.returned v)∧settle u=.returning∧∃ T v U,Holds w g (obj b T [v]::U)∧R (.returned v) w
theorem vG {a:Act} {w:World} {u:FrameMode} {aJ b:Nat} {ty:TypeId} {cap args:Array Value} (hr:fn.results=#[.cell aJ ty]) (xO:dU P ty=true) (hf:Fits a n σ) (hl:look σ aJ=some (.pointer (some ⟨b,0,none⟩)))
  (hu:u≠.run) (hc:dA P f=true) (tC:CallsD P f (args++cap) u w (sP g b R)):eP P fn a.tmps R [⟨.fn (.func f) cap,args⟩] u w:=by
 refine eP.of (leaves_cons hu (by simp [invoke,A0 hc]) (tC.mono ?_));rintro e u' w' ⟨⟨v,rfl⟩,hs,T,v',ax,hw,hR⟩
 show Leaves P fn a.tmps R [] (settle u') w'
 rw [hs];refine ⟨v',?_,hR⟩;have hc0:w'.cell? ⟨b,0,none⟩=some v' :=hw.tZ (by rfl);have hl' :=hf.2 aJ _ hl
 simp [results,hr,Array.getD_eq_getD_getElem?,hl',asAddr,loadVar,sw (rL xO),hc0]
theorem S.q8 (h:∀ a w,Fits a n σ→a.defers=D→Holds w g U→eP P fn a.tmps R D .returning w):S none P fn n R (.code .ret::k) σ D g U:=by
 intro a w hf hd hw
 refine .ret ?_
 show eP P fn a.tmps R a.defers .returning w
 rw [hd];exact h a w hf hd hw
theorem S.Fw {aJ b:Nat} {ty T:TypeId} {v:Value} (hr:fn.results=#[.cell aJ ty]) (xO:dU P ty=true) (hl:look σ aJ=some (.pointer (some ⟨b,0,none⟩))) (hs:a_ U (obj b T [v]) ζ)
  (h:∀ w,Holds w g (obj b T [v]::ζ)→R (.returned v) w):S none P fn n R (.code .ret::k) σ [] g U:=by
 refine S.q8 fun a w hf hd hw=>?_;have hw' :=hw.cr hs;refine ⟨v,?_,h w hw'⟩;have hc0:w.cell? ⟨b,0,none⟩=some v:=hw'.tZ (by rfl);have hl' :=hf.2 aJ _ hl
 simp [results,hr,Array.getD_eq_getD_getElem?,hl',asAddr,loadVar,sw (rL xO),hc0]
theorem O.GY {first cap:Array Value} {X:List PanicEntry→List az→Prop} (ho:bG ops i n σ d (.call ⟨.value x,xs,ts⟩)) (hx:aA σ x=some (.func (.func f) first cap)) (hc:dA P f=true)
  (hv:dS σ xs.toList=some bF) {args:Array Value} (hargs:first++bF.toArray++cap=args) (con:ay P f args g.h U (eL K X))
  (hp:∀ a ch ax w,Fits a n σ→X ch ax →Holds w g (ax ++ζ)→eP P fn a.tmps R D (.panicking ch) w)
  (h:∀ v ax,K v ax →O none P fn n R ops l k ((d,v)::σ) D g (ax ++ζ)):O none P fn n R ops (i::l) k σ D g (U++ζ):=by
 intro a w hf hd hw
 obtain ⟨o,hi,eB,hop,hg,hb⟩:=ho.spec;have hm:xs.map a.eval=bF.toArray:=by rw [← qG hf.kn hv,← Array.toList_map]
 refine O.mJ hi (hg a hf) (by rw [hop];intro c hc;cases hc) (AZ hop (hf.kn x _ hx) hc w) ?_;rw [Oper.uponIn_enter,hm,hargs];refine B6 ?_;refine (con.frame (ζ:=ζ) g (Fr.bU _) w hw).mono fun e w' hh=>?_;obtain ⟨ax,⟨cT,hq,rfl⟩,hw'⟩:=hh
 cases e with
 |returned v =>
  show wpOpsIn (nk none) 0 P ops _ l (a.put o.dst v) w'
  rw [eB];exact h v cT hq _ _ (hf.put hb) hd hw'
 |panicked ch =>
  show eP P fn a.tmps R a.defers (.panicking ch) w'
  rw [hd];exact hp a ch cT w' hf hq hw'
 |outgrown=>exact hq.elim
theorem O.qA {first cap:Array Value} {X:List PanicEntry→List az→Prop} {A:az} (ho:bG ops i n σ d (.call ⟨.value x,xs,ts⟩)) (hx:aA σ x=some (.func (.func f) first cap)) (hc:dA P f=true)
  (hv:dS σ xs.toList=some bF) {args:Array Value} (hargs:first++bF.toArray++cap=args) (hs:a_ U A ζ) (con:ay P f args g.h [A] (eL K X))
  (hp:∀ ch ax w,X ch ax →Holds w g (ax ++ζ)→R (.panicked ch) w)
  (h:∀ v ax,K v ax →O ro P fn n R ops l k ((d,v)::σ) [] g (ax ++ζ)):O ro P fn n R ops (i::l) k σ [] g U :=
 fun a w hf hd hw=>O.GX (U:=[A]) (ζ:=ζ) ho hx hc hv hargs con hp h a w hf hd (hw.cr hs)
theorem O.kS {first cap:Array Value} {X:List PanicEntry→List az→Prop} (ho:bG ops i n σ d (.call ⟨.value x,xs,ts⟩)) (hx:aA σ x=some (.func (.func f) first cap)) (hc:dA P f=true)
  (hv:dS σ xs.toList=some bF) {args:Array Value} (hargs:first++bF.toArray++cap=args) (con:ay P f args g.h [] (eL K X))
  (hp:∀ ch ax w,X ch ax →Holds w g (ax ++U)→R (.panicked ch) w)
  (h:∀ v ax,K v ax →O ro P fn n R ops l k ((d,v)::σ) [] g (ax ++U)):O ro P fn n R ops (i::l) k σ [] g U :=
 O.GX (U:=[]) (ζ:=U) ho hx hc hv hargs con hp h
theorem O.B5 {first cap:Array Value} {X:List PanicEntry→List az→Prop} {A:az} (ho:bG ops i n σ d (.call ⟨.value x,xs,ts⟩)) (hx:aA σ x=some (.func (.func f) first cap)) (hc:dA P f=true)
  (hv:dS σ xs.toList=some bF) {args:Array Value} (hargs:first++bF.toArray++cap=args) (hs:a_ U A ζ) (con:ay P f args g.h [A] (eL K X))
  (hp:∀ a ch ax w,Fits a n σ→X ch ax →Holds w g (ax ++ζ)→eP P fn a.tmps R D (.panicking ch) w)
  (h:∀ v ax,K v ax →O none P fn n R ops l k ((d,v)::σ) D g (ax ++ζ)):O none P fn n R ops (i::l) k σ D g U :=
 fun a w hf hd hw=>O.GY (U:=[A]) (ζ:=ζ) ho hx hc hv hargs con hp h a w hf hd (hw.cr hs)
theorem O.B4 {first cap:Array Value} {X:List PanicEntry→List az→Prop} (ho:bG ops i n σ d (.call ⟨.value x,xs,ts⟩)) (hx:aA σ x=some (.func (.func f) first cap)) (hc:dA P f=true)
  (hv:dS σ xs.toList=some bF) {args:Array Value} (hargs:first++bF.toArray++cap=args) (con:ay P f args g.h [] (eL K X))
  (hp:∀ a ch ax w,Fits a n σ→X ch ax →Holds w g (ax ++U)→eP P fn a.tmps R D (.panicking ch) w)
  (h:∀ v ax,K v ax →O none P fn n R ops l k ((d,v)::σ) D g (ax ++U)):O none P fn n R ops (i::l) k σ D g U :=
 O.GY (U:=[]) (ζ:=U) ho hx hc hv hargs con hp h
theorem af.qA {first cap:Array Value} {X:List PanicEntry→List az→Prop} {A:az} (ho:bG ops i n σ d (.call ⟨.value x,xs,ts⟩)) (hd:eF ops [i] l=true) (hx:aA σ x=some (.func (.func f) first cap)) (hc:dA P f=true)
  (hv:dS σ xs.toList=some bF) {args:Array Value} (hargs:first++bF.toArray++cap=args) (hs:a_ U A ζ) (con:ay P f args g.h [A] (eL K X))
  (hp:∀ ch ax w,X ch ax →Holds w g (ax ++ζ)→R (.panicked ch) w)
  (h:∀ v ax,K v ax →af P fn n R ops k [] g l ((d,v)::σ) (ax ++ζ)):af P fn n R ops k [] g (i::l) σ U :=
 af.perm hs.perm (af.lS (U:=[A]) (ζ:=ζ) ho hd hx hc hv hargs con (fun _ ch ax w hX hW=>hp ch ax w hX hW) h)
theorem af.kS {first cap:Array Value} {X:List PanicEntry→List az→Prop} (ho:bG ops i n σ d (.call ⟨.value x,xs,ts⟩)) (hd:eF ops [i] l=true) (hx:aA σ x=some (.func (.func f) first cap)) (hc:dA P f=true)
  (hv:dS σ xs.toList=some bF) {args:Array Value} (hargs:first++bF.toArray++cap=args) (con:ay P f args g.h [] (eL K X))
  (hp:∀ ch ax w,X ch ax →Holds w g (ax ++U)→R (.panicked ch) w)
  (h:∀ v ax,K v ax →af P fn n R ops k [] g l ((d,v)::σ) (ax ++U)):af P fn n R ops k [] g (i::l) σ U :=
 af.lS (U:=[]) (ζ:=U) ho hd hx hc hv hargs con (fun _ ch ax w hX hW=>hp ch ax w hX hW) h
theorem VF {ms:Array (String × TypeId)} {u:TypeId} {v:Value} (ht:P.underlying t=some (.interface ms)) (w:World):(Op.equal t (.iface u v) .nilIface).run P w=.ok false w:=by
 show (Op.equalIn (9999+1) t (.iface u v) .nilIface).run P w=_
 rw [Op.equalIn];simp [run_underlying ht]
theorem VH {ms:Array (String × TypeId)} (ht:P.underlying t=some (.interface ms)) (w:World):(Op.equal t .nilIface .nilIface).run P w=.ok true w:=by
 show (Op.equalIn (9999+1) t .nilIface .nilIface).run P w=_
 rw [Op.equalIn];simp [run_underlying ht]
theorem aF.vL {u:TypeId} {ms:Array (String × TypeId)} {v:Value} {Xj:TypeId} (ht:P.underlying t=some (.interface ms)) (hx:aA σ x=some (.iface Xj v)):aF P (.binOp .neq t x (.const .nilIface) u) σ g U (.bool true) U :=
 .run fun o ρ w ho hk=>by simp [execOp,ho,hk x _ hx,hk (.const .nilIface) _ rfl,eqGuard,Go.binOp,VF ht]
theorem aF.vK {u:TypeId} {ms:Array (String × TypeId)} (ht:P.underlying t=some (.interface ms)) (hx:aA σ x=some .nilIface):aF P (.binOp .neq t x (.const .nilIface) u) σ g U (.bool false) U :=
 .run fun o ρ w ho hk=>by simp [execOp,ho,hk x _ hx,hk (.const .nilIface) _ rfl,eqGuard,Go.binOp,VH ht]
theorem aF.uV {ti ta:TypeId} {v:Value} {dd:TypeDesc} (ht:P.underlying ta=some dd) (hx:aA σ x=some (.iface ta v)) (hn:J1 dd=true:=by rfl):aF P (.typeAssert x ti ta true) σ g U (.tuple #[v,.bool true]) U :=
 .run fun o ρ w ho hk=>by
  simp only [execOp,ho,hk x _ hx,Instr.typeAssert,Sem.run_bind,run_underlying ht,Result.andThen_ok]
  cases dd<;>first|(simp;done)|exact Bool.noConfusion hn
end
end Go.Sp
end
end
section
/- Texts of this proof. -/
namespace Go.Sp
def b6 {β α:Type} (A:β→α→az):List β→List α→az
 |[],[]=>fun _=>True
 |b::bs,a::as=>fun h=>Sat [A b a,b6 A bs as] h
 |_,_=>fun _=>False
theorem Sat.two {A B:az} {m:Fr}:Sat [A,B] m↔∃ h1 h2:Fr,h1.cR h2∧h1.sub m∧h2.sub m∧A h1∧(∃ h3:Fr,h3.sub h2∧B h3):=by
 constructor
 ·rintro ⟨h1,h2,d,s1,s2,x,k1,k2,_,t1,_,y,_⟩
  exact ⟨h1,h2,d,s1,s2,x,k1,t1,y⟩
 ·rintro ⟨h1,h2,d,s1,s2,x,h3,t,y⟩
  exact ⟨h1,h2,d,s1,s2,x,h3,Fr.emp,Fr.eZ (Fr.dZ _),t,Fr.cV _,y,trivial⟩
theorem b6.snoc {β α:Type} {A:β→α→az} {b:β} {a:α}:∀ {bs:List β} {as:List α} {m:Fr},Sat [b6 A bs as,A b a] m→∃ h:Fr,h.sub m∧b6 A (bs++[b]) (as++[a]) h
 |[],[],m,h=>⟨m,Fr.bU _,by
  have h2:Sat [A b a] m:=h.tail';exact Sat.append (U:=[A b a]) (ζ:=[b6 A [] []]) (Fr.eZ (Fr.dZ _)) h2 ⟨Fr.emp,Fr.emp,Fr.dZ _,Fr.cV _,Fr.cV _,trivial,trivial⟩ |>Sat.mono (Fr.iw (Fr.bU _) (Fr.cV _))⟩
 |[],_::_,_,h=>by obtain ⟨_,_,_,_,_,x,_⟩:=h;exact x.elim
 |_::_,[],_,h=>by obtain ⟨_,_,_,_,_,x,_⟩:=h;exact x.elim
 |b' ::bs,a' ::as,m,h=>by
  obtain ⟨h1,h2,d,s1,s2,x,y⟩:=h;have x' :Sat [A b' a',b6 A bs as] h1:=x;obtain ⟨k1,k2,kd,t1,t2,p,q⟩:=x';have hq:Sat [b6 A bs as,A b a] (k2.add h2):=Sat.append (U:=[b6 A bs as]) (ζ:=[A b a]) (Fr.fK d t2 (Fr.bU _)) q y;obtain ⟨h3,u,z⟩:=b6.snoc hq;refine ⟨m,Fr.bU _,?_⟩
  show Sat [A b' a',b6 A (bs++[b]) (as++[a])] m
  refine ⟨k1,k2.add h2,Fr.rI kd (Fr.fK d t1 (Fr.bU _)),Fr.aH t1 s1,Fr.iw (Fr.aH t2 s1) s2,p,h3,Fr.emp,Fr.eZ (Fr.dZ _),u,Fr.cV _,z,trivial⟩
theorem b6.sU {β α:Type} {A:β→α→az} {R:β→α→Prop} {k:Fr} (hA:∀ b a m,A b a m→m.sub k→R b a):∀ {bs:List β} {as:List α} {m:Fr},b6 A bs as m→m.sub k→bV R bs as
 |[],[],_,_,_=>trivial
 |[],_::_,_,h,_=>h.elim
 |_::_,[],_,h,_=>h.elim
 |b::bs,a::as,m,h,s=>by
  have h' :Sat [A b a,b6 A bs as] m:=h;obtain ⟨k1,k2,_,t1,t2,p,bg,_,_,u,_,q,_⟩:=h';exact ⟨hA b a k1 p (Fr.aH t1 s),b6.sU hA q (Fr.aH u (Fr.aH t2 s))⟩
abbrev sS {α:Type} (T:ag α) (e:TypeId) (vs:List Value) (xss:List (List α)):az:=b6 (av T e) vs xss
section
variable {ro:Option Nat} {P:Program} {fn:Func} {n:Nat} {R:Ending→World→Prop} {k:List Item} {σ:List (Nat × Value)} {D:List Deferred} {g:bk} {U ζ aO:List az} {ops:Array Oper} {L:List Nat}
theorem Sat.each {β α:Type} {A:β→α→az} {b:β} {a:α} {bs:List β} {as:List α} {m:Fr} (h:Sat (b6 A bs as::A b a::aO) m):Sat (b6 A (bs++[b]) (as++[a])::aO) m:=by
 obtain ⟨h1,h2,d,s1,s2,x,k1,k2,kd,t1,t2,y,z⟩:=h;obtain ⟨h3,u,w⟩:=b6.snoc (Sat.append (U:=[b6 A bs as]) (ζ:=[A b a]) (Fr.fK d (Fr.bU _) t1) ⟨h1,Fr.emp,Fr.eZ (Fr.dZ _),Fr.bU _,Fr.cV _,x,trivial⟩ ⟨k1,Fr.emp,Fr.eZ (Fr.dZ _),Fr.bU _,Fr.cV _,y,trivial⟩);exact ⟨h3,k2,Fr.fK (Fr.p4 (Fr.fK d (Fr.bU _) t2) kd) u (Fr.bU _),Fr.aH u (Fr.iw s1 (Fr.aH t1 s2)),Fr.aH t2 s2,w,z⟩
theorem O.each {β α:Type} {A:β→α→az} {b:β} {a:α} {bs:List β} {as:List α} (s1:a_ U (b6 A bs as) ζ) (s2:a_ ζ (A b a) aO) (h:O ro P fn n R ops L k σ D g (b6 A (bs++[b]) (as++[a])::aO)):O ro P fn n R ops L k σ D g U :=
 O.cr s1 (O.imp (U:=b6 A bs as::ζ) (fun _ x=>Sat.each (Sat.fk (fun _ y=>y) (fun _ y=>Sat.perm s2.perm y) x)) h)
theorem S.imp' {todo:List Item} (hs:∀ m,Sat U m→Sat ζ m) (h:S ro P fn n R todo σ D g ζ):S ro P fn n R todo σ D g U:=fun a w hf hd hw=>h a w hf hd (hw.imp hs)
theorem S.each {todo:List Item} {β α:Type} {A:β→α→az} {b:β} {a:α} {bs:List β} {as:List α} (s1:a_ U (b6 A bs as) ζ) (s2:a_ ζ (A b a) aO) (h:S ro P fn n R todo σ D g (b6 A (bs++[b]) (as++[a])::aO)):S ro P fn n R todo σ D g U :=
 S.cr s1 (S.imp' (U:=b6 A bs as::ζ) (fun _ x=>Sat.each (Sat.fk (fun _ y=>y) (fun _ y=>Sat.perm s2.perm y) x)) h)
theorem Sat.rows {α:Type} {T:ag α} {e e' :TypeId} {v:Value} {vs:List Value} {xss:List (List α)} {m:Fr} (h:Sat [av ag.val e v vs,sS T e' vs xss] m):aj (ag.slice T) m v xss:=by
 obtain ⟨h1,h2,_,s1,s2,x,h3,_,_,t,_,y,_⟩:=h;exact (x.arr.mono s1).rows (b6.sU (fun b a m' z s=>z.arr.mono s) y (Fr.aH t s2))
theorem V1 {α:Type} {T:ag α} {e e' :TypeId} {v:Value} {vs:List Value} {xss:List (List α)} (s1:a_ U (av ag.val e v vs) ζ) (s2:a_ ζ (sS T e' vs xss) aO) (m:Fr) (h:Sat U m):Sat ((fun m=>aj (ag.slice T) m v xss)::aO) m:=by
 obtain ⟨h1,h2,d,t1,t2,x,y⟩:=Sat.perm s1.perm h;obtain ⟨k1,k2,kd,u1,u2,p,q⟩:=Sat.perm s2.perm y;refine ⟨h1.add k1,k2,Fr.p4 (Fr.fK d (Fr.bU _) u2) kd,Fr.iw t1 (Fr.aH u1 t2),Fr.aH u2 t2,?_,q⟩;exact Sat.rows (Sat.append (U:=[av ag.val e v vs]) (ζ:=[sS T e' vs xss]) (Fr.fK d (Fr.bU _) u1) ⟨h1,Fr.emp,Fr.eZ (Fr.dZ _),Fr.bU _,Fr.cV _,x,trivial⟩ ⟨k1,Fr.emp,Fr.eZ (Fr.dZ _),Fr.bU _,Fr.cV _,p,trivial⟩)
theorem S.vX {aJ b:Nat} {ty T:TypeId} {cs:List Value} (hr:fn.results=#[.cell aJ ty]) (xO:∀ w,(isAgg ty).run P w=.ok true w) (hsz:(P.info? ty).map (·.size)=some cs.length) (hl:look σ aJ=some (.pointer (some ⟨b,0,none⟩))) (hs:a_ U (obj b T cs) ζ)
  (h:∀ w,Holds w g (obj b T cs::ζ)→R (.returned (.agg cs.toArray)) w):S none P fn n R (.code .ret::k) σ [] g U:=by
 refine S.q8 fun a w hf hd hw=>?_;have hw' :=hw.cr hs;refine ⟨.agg cs.toArray,?_,h w hw'⟩;have hc0:=run_loadCells_list (P:=P) w ⟨b,0,none⟩ cs fun j v hj=>by
  rw [add_lit];exact hw'.tZ (by simpa using hj)
 have hl' :=hf.2 aJ _ hl
 simp [results,hr,Array.getD_eq_getD_getElem?,hl',asAddr,loadVar,xO,run_sizeOf hsz,hc0]
theorem O.N_ {α:Type} {T:ag α} {e e' :TypeId} {v:Value} {vs:List Value} {xss:List (List α)} (s1:a_ U (av ag.val e v vs) ζ) (s2:a_ ζ (sS T e' vs xss) aO) (h:∀ g' :bk,g.h.sub g'.h→(∀ w ζ,Holds w g' ζ→Holds w g ζ)→aj (ag.slice T) g'.h v xss→O ro P fn n R ops L k σ D g' aO):O ro P fn n R ops L k σ D g U :=
 O.imp (V1 s1 s2) (O.Oa a_.here h)
end
section
variable {ro:Option Nat} {P:Program} {σ:List (Nat × Value)} {g:bk} {U ζ:List az} {fn:Func} {n:Nat} {R:Ending→World→Prop} {k:List Item} {D:List Deferred} {ops:Array Oper} {i d:Nat} {l:List Nat}
 {t e:TypeId} {x y z:Operand} {v:Value} {ka kb:IntKind} {qu nT:Int} {a b:Nat} {α:Type} {T:ag α} {xs:List α} {r:Fr}
theorem ay.xY {f:FuncId} {args:Array Value} {h:Fr} {bs:List az} {Post:Ending→List az→Prop} (con:∀ m:Fr,Sat bs m→h.cR m→ay P f args (h.add m) U Post) :
  ay P f args h (U++bs) Post:=fun g hg w hw=>by
 obtain ⟨m,hm,hd,hw'⟩:=Holds.zz (U:=U) (ζ:=bs) hw;have l7 :h.cR m:=Fr.fK hd hg (Fr.bU _);exact (con m hm l7 (g.add m) (Fr.iw (Fr.aH hg (Fr.de _ _)) (Fr.dL hd)) w hw').mono fun e w' ⟨ax,x,y⟩=>⟨ax,x,y.ic hd⟩
theorem O.e7 {f:FuncId} {xs:Array Operand} {ts:Array TypeId} {bF:List Value} {K' :Value→List az→Prop} {first cap:Array Value} (ho:bG ops i n σ d (.call ⟨.value x,xs,ts⟩)) (hx:aA σ x=some (.func (.func f) first cap)) (hc:dA P f=true)
  (hv:dS σ xs.toList=some bF) {args:Array Value} (hargs:first++bF.toArray++cap=args) {bs:List az} (hb:jM U bs ζ) (con:ay P f args g.h bs (aL K'))
  (h:∀ v ax,K' v ax →O ro P fn n R ops l k ((d,v)::σ) D g (ax ++ζ)):O ro P fn n R ops (i::l) k σ D g U :=
 fun a w hf hd hw=>O.call (ζ:=ζ) ho hx hc hv hargs con h a w hf hd (hw.perm hb.perm)
theorem cK.e7 {f:FuncId} {xs:Array Operand} {ts:Array TypeId} {bF:List Value} {K' :Value→List az→Prop} {first cap:Array Value} (ho:bG ops i n σ d (.call ⟨.value x,xs,ts⟩)) {fl:Bool} (hd:ed fl ops i l=true) (hx:aA σ x=some (.func (.func f) first cap)) (hc:dA P f=true)
  (hv:dS σ xs.toList=some bF) {args:Array Value} (hargs:first++bF.toArray++cap=args) {bs:List az} (hb:jM U bs ζ) (con:ay P f args g.h bs (aL K'))
  (h:∀ v ax,K' v ax →af P fn n R ops k D g l ((d,v)::σ) (ax ++ζ)):aI P fn n R ops k D g fl (i::l) σ U :=
 aI.perm hb.perm (cK.call (ζ:=ζ) ho hd hx hc hv hargs con h)
theorem af.e7 {f:FuncId} {xs:Array Operand} {ts:Array TypeId} {bF:List Value} {K' :Value→List az→Prop} {first cap:Array Value} (ho:bG ops i n σ d (.call ⟨.value x,xs,ts⟩)) (hd:eF ops [i] l=true) (hx:aA σ x=some (.func (.func f) first cap)) (hc:dA P f=true) (hv:dS σ xs.toList=some bF) {args:Array Value} (hargs:first++bF.toArray++cap=args) {bs:List az} (hb:jM U bs ζ) (con:ay P f args g.h bs (aL K')) (h:∀ v ax,K' v ax →af P fn n R ops k D g l ((d,v)::σ) (ax ++ζ)):af P fn n R ops k D g (i::l) σ U:=cK.e7 (fl:=false) ho (by simpa [ed] using hd) hx hc hv hargs hb con h
theorem bO.e7 {f:FuncId} {xs:Array Operand} {ts:Array TypeId} {bF:List Value} {K' :Value→List az→Prop} {first cap:Array Value} (ho:bG ops i n σ d (.call ⟨.value x,xs,ts⟩)) (_:true=true) (hx:aA σ x=some (.func (.func f) first cap)) (hc:dA P f=true) (hv:dS σ xs.toList=some bF) {args:Array Value} (hargs:first++bF.toArray++cap=args) {bs:List az} (hb:jM U bs ζ) (con:ay P f args g.h bs (aL K')) (h:∀ v ax,K' v ax →af P fn n R ops k D g l ((d,v)::σ) (ax ++ζ)):aI P fn n R ops k D g true (i::l) σ U:=cK.e7 (fl:=true) ho rfl hx hc hv hargs hb con h
theorem af.sliceTo (ho:bG ops i n σ d (.slice t x none (some y) none)) (ht:P.underlying t=some (.slice e)) (he:(P.info? e).map (·.size)=some T.k) (hx:aA σ x=some v) (hy:aA σ y=some (.int kb nT)) (hs:aj T r v xs) (hz:nT=(b:Int)) (hb:b≤xs.length)
  (h:∀ u,aj T r u (xs.take b)→af P fn n R ops k D g l ((d,u)::σ) U):af P fn n R ops k D g (i::l) σ U:=by
 subst hz;obtain ⟨u,h1,h2⟩:=yA (g:=g) (a:=0) (b:=b) (kl:=.i64) ht he hx (lo:=none) (hi:=some y) (fun _ h=>nomatch h) (fun _=>rfl) (fun _ h=>by cases h;exact hy) (fun h=>nomatch h) hs (Nat.zero_le _) hb;exact .quiet ho rfl h1 (h u h2)
theorem af.sliceFrom (ho:bG ops i n σ d (.slice t x (some y) none none)) (ht:P.underlying t=some (.slice e)) (he:(P.info? e).map (·.size)=some T.k) (hx:aA σ x=some v) (hy:aA σ y=some (.int ka qu)) (hs:aj T r v xs) (hz:qu=(a:Int)) (ha:a≤xs.length)
  (h:∀ u,aj T r u (xs.drop a)→af P fn n R ops k D g l ((d,u)::σ) U):af P fn n R ops k D g (i::l) σ U:=by
 subst hz;obtain ⟨u,h1,h2⟩:=yA (g:=g) (a:=a) (b:=xs.length) (kh:=.i64) ht he hx (lo:=some y) (hi:=none) (fun _ h=>by cases h;exact hy) (fun h=>nomatch h) (fun _ h=>nomatch h) (fun _=>rfl) hs ha (Nat.le_refl _);exact .quiet ho rfl h1 (h u (by rw [List.take_length] at h2;exact h2))
theorem cK.cZ {t T:TypeId} {x y:Operand} {b i:Nat} {cs news:List Value} {v:Value} {j:Nat} (ho:ko ops j=some (.store t x y)) {fl:Bool} (hd:ed fl ops j l=true) (hsz:(P.info? t).map (·.size)=some news.length) (hx:aA σ x=some (.pointer (some ⟨b,i,none⟩))) (hy:aA σ y=some v)
  (hv:v.cells.toList=news) (h1:news.all (·.oneCell')=true) (hs:a_ U (obj b T cs) ζ) (hl:i+news.length≤cs.length)
  (h:af P fn n R ops k D g l σ (obj b T (cs.take i++news++cs.drop (i+news.length))::ζ)):aI P fn n R ops k D g fl (j::l) σ U :=
 aI.perm hs.perm (cK.mS (U:=obj b T cs::ζ) (ax :=obj b T (cs.take i++news++cs.drop (i+news.length))::ζ) ho rfl hd (fun _=>.cZ hsz hx hy hv h1 a_.here hl) h)
theorem af.cZ {t T:TypeId} {x y:Operand} {b i:Nat} {cs news:List Value} {v:Value} {j:Nat} (ho:ko ops j=some (.store t x y)) (hd:eF ops [j] l=true) (hsz:(P.info? t).map (·.size)=some news.length) (hx:aA σ x=some (.pointer (some ⟨b,i,none⟩))) (hy:aA σ y=some v) (hv:v.cells.toList=news) (h1:news.all (·.oneCell')=true) (hs:a_ U (obj b T cs) ζ) (hl:i+news.length≤cs.length) (h:af P fn n R ops k D g l σ (obj b T (cs.take i++news++cs.drop (i+news.length))::ζ)):af P fn n R ops k D g (j::l) σ U:=cK.cZ (fl:=false) ho (by simpa [ed] using hd) hsz hx hy hv h1 hs hl h
theorem cK.bn {t T:TypeId} {x y:Operand} {b i:Nat} {cs:List Value} {v:Value} {j:Nat} (ho:ko ops j=some (.store t x y)) {fl:Bool} (hd:ed fl ops j l=true) (ht:dU P t=true) (hx:aA σ x=some (.pointer (some ⟨b,i,none⟩))) (hy:aA σ y=some v)
  (h1:v.oneCell' =true) (hs:a_ U (obj b T cs) ζ) (hl:i<cs.length)
  (h:af P fn n R ops k D g l σ (obj b T (cs.set i v)::ζ)):aI P fn n R ops k D g fl (j::l) σ U :=
 aI.perm hs.perm (cK.mS (U:=obj b T cs::ζ) (ax :=obj b T (cs.set i v)::ζ) ho rfl hd (fun _=>.bn ht hx hy h1 a_.here hl) h)
theorem af.bn {t T:TypeId} {x y:Operand} {b i:Nat} {cs:List Value} {v:Value} {j:Nat} (ho:ko ops j=some (.store t x y)) (hd:eF ops [j] l=true) (ht:dU P t=true) (hx:aA σ x=some (.pointer (some ⟨b,i,none⟩))) (hy:aA σ y=some v) (h1:v.oneCell' =true) (hs:a_ U (obj b T cs) ζ) (hl:i<cs.length) (h:af P fn n R ops k D g l σ (obj b T (cs.set i v)::ζ)):af P fn n R ops k D g (j::l) σ U:=cK.bn (fl:=false) ho (by simpa [ed] using hd) ht hx hy h1 hs hl h
end
end Go.Sp
end
end
section
/- Texts of this proof, one behind the other. -/
section
/- Texts of this proof, one behind the other. -/
section
/- Texts of this proof, one behind the other. -/
section
/- Texts of this proof, one behind the other. -/
section
/- Texts of this proof, one behind the other. -/
section
/- Texts of this proof. -/
namespace Go.Sp
section
variable {P:Program} {σ:List (Nat × Value)} {g:bk} {U ζ aO:List az}
def XU {α:Type} (T:ag α) (e:TypeId) (v:Value) (xs:List α) (u:Value) (ys:List α):az:=fun h =>
 (∃ a c,v=.slice a xs.length c∧u=.slice a (xs.length+ys.length) c∧av T e u (xs++ys) h)∨Sat [av T e u (xs++ys),av T e v xs] h
theorem av.take {α:Type} {T:ag α} {e:TypeId} {a:Option Addr} {n m c:Nat} {xs ys:List α} {h:Fr} (hn:n=xs.length) (x:av T e (.slice a m c) (xs++ys) h):av T e (.slice a n c) xs h:=by
 subst hn;obtain ⟨ak,h1,h2,h3⟩:=x;have hl:ak.length=xs.length+ys.length:=by rw [h1.length];simp
 have ht:=h1.take xs.length;rw [List.take_left'] at ht
 ·refine ⟨ak.take xs.length,ht,?_,?_⟩
  ·rw [← h1.s9,List.length_take,h2,List.length_append];exact Nat.min_eq_left (Nat.mul_le_mul_right _ (by omega))
  ·rcases h3 with ⟨h4,h5⟩|⟨b,cap,cur,h4,h5,h6,h7,h8,h9⟩
   ·cases h4
    simp at h5
    exact .inl ⟨by rw [h5.1];rfl,by rw [h5.1];rfl⟩
   ·cases h4
    refine .inr ⟨b,c,cur,rfl,h5,?_,h7,h8,?_⟩
    ·rw [List.length_append] at h6;omega
    ·rw [← h1.s9,← h9,List.take_take,List.length_append,Nat.min_eq_left (Nat.mul_le_mul_right _ (by omega))]
 ·rfl
end
end Go.Sp
end
section
/- Texts of this proof. -/
namespace Go.Sp
theorem b6.len {β α:Type} {A:β→α→az}:∀ {bs:List β} {as:List α} {h:Fr},b6 A bs as h→bs.length=as.length
 |[],[],_,_=>rfl
 |[],_::_,_,h=>h.elim
 |_::_,[],_,h=>h.elim
 |_::_,_::_,_,h=>by
  have h' :Sat [_,b6 _ _ _] _:=h;obtain ⟨_,_,_,_,_,_,_,_,_,_,_,q,_⟩:=h'
  simp [b6.len q]
theorem Sat.Ex {A B C:az} {aO:List az} (hs:∀ m,Sat [A,B] m→C m):∀ {m:Fr},Sat (A::B::aO) m→Sat (C::aO) m:=by
 rintro m ⟨h1,h2,d,s1,s2,x,k1,k2,kd,t1,t2,y,z⟩;refine ⟨h1.add k1,k2,Fr.p4 (Fr.fK d (Fr.bU _) t2) kd,Fr.iw s1 (Fr.aH t1 s2),Fr.aH t2 s2,hs _ ?_,z⟩;have d2:h1.cR k1:=Fr.fK d (Fr.bU _) t1;exact ⟨h1,k1,d2,Fr.de _ _,Fr.dL d2,x,k1,Fr.emp,Fr.eZ (Fr.dZ _),Fr.bU _,Fr.cV _,y,trivial⟩
section
variable {ro:Option Nat} {P:Program} {fn:Func} {n:Nat} {R:Ending→World→Prop} {k:List Item} {σ:List (Nat × Value)} {D:List Deferred} {g:bk} {U ζ aO:List az} {ops:Array Oper} {L:List Nat} {β α:Type} {A:β→α→az} {todo:List Item}
theorem S.conv {B C:az} (s:a_ U B ζ) (hc:∀ m,B m→∃ h:Fr,h.sub m∧C h) (h:S ro P fn n R todo σ D g (C::ζ)):S ro P fn n R todo σ D g U :=
 S.cr s (S.imp' (U:=B::ζ) (ζ:=C::ζ) (fun _ ⟨_,h2,d,s1,s2,x,y⟩=>let ⟨h3,u,z⟩:=hc _ x;⟨h3,h2,Fr.fK d u (Fr.bU _),Fr.aH u s1,s2,z,y⟩) h)
theorem S.lV {B:az} {p:Prop} (s:a_ U B ζ) (hs:∀ m,B m→p) (h:p→S ro P fn n R todo σ D g U):S ro P fn n R todo σ D g U :=
 fun a w hf hd hw=>by
  obtain ⟨_,_,_,_,_,_,_,_,_,_,_,_,hB,_⟩:=hw.cr s;exact h (hs _ hB) a w hf hd hw
end
end Go.Sp
end
end
section
/- Texts of this proof. -/
namespace Go.Sp
section
variable {P:Program} {σ:List (Nat × Value)} {g:bk} {U ζ:List az} {t e:TypeId} {x:Operand}
theorem KD (P:Program) (w:World) (f:Value→ByteArray→Sem (ForInStep ByteArray)) (hf:∀ (b:UInt8) s,f (bD b) s=.pure (.yield (s.push b))):∀ (xs:List UInt8) (s:ByteArray),
  (forIn (xs.map bD) s f:Sem ByteArray).run P w=.ok (⟨s.data++xs.toArray⟩) w
 |[],s=>by simp [forIn]
 |b::xs,s=>by
  have:=KD P w f hf xs (s.push b);rw [List.map_cons,List.forIn_cons,hf];simp only [Sem.run_bind,Sem.run,Result.andThen_ok];rw [this];simp
theorem aF.toStr {v:Value} {xs:List UInt8} (ht:P.underlying t=some (.slice e)) (he:P.underlying e=some (.int .u8)) {t2:TypeId} (ht2:P.underlying t2=some .string) (hx:aA σ x=some v) (hs:aj ag.u8 g.h v xs) :
  aF P (.convert t t2 x) σ g U (.string (str xs)) U :=
 fun o ρ w ho hk hw=>by
  refine ⟨w,?_,hw⟩;obtain ⟨ak,ha,a,cap,rfl,h1,h2,h3,h4⟩:=hs
  cases a with
  |none =>
   obtain ⟨rfl,_⟩:=aj.x_ (T:=ag.u8) (xs:=xs) (by decide) ⟨ak,ha,none,cap,rfl,h1,h2,h3,h4⟩
   simp [execOp,ho,hk x _ hx,convert,run_underlying ht,run_underlying he,run_underlying ht2,Conv.bytesToString]
   rfl
  |some a =>
   have hcs:ak.flatten=xs.map bD:=by
    clear h1 h2 h3 h4 hx
    induction ak generalizing xs with
    |nil=>cases xs with
     |nil=>rfl
     |cons _ _=>exact ha.elim
    |cons c ak ih=>cases xs with
     |nil=>exact ha.elim
     |cons b xs=>rw [List.flatten_cons,ih ha.2,show c=[bD b] from ha.1];rfl
   have hr:=run_loadCells_list (P:=P) w a ak.flatten fun j v hj=>by
    obtain ⟨hj',rfl⟩:=List.getElem?_eq_some_iff.1 hj;obtain ⟨p,hp,hc⟩:=h4 j hj'
    cases hp
    exact Fr.qB hw.ground hc
   have hlen:ak.flatten.length=xs.length:=by rw [hcs];simp
   rw [hlen] at hr
   simp [execOp,ho,hk x _ hx,convert,run_underlying ht,run_underlying he,run_underlying ht2,Conv.bytesToString,hr]
   rw [hcs,KD P w _ (fun b s=>by simp [bD];rfl)];have e0:(⟨ByteArray.empty.data++xs.toArray⟩:ByteArray)=str xs:=by
    show (⟨#[]++xs.toArray⟩:ByteArray)=_
    simp [str]
   rw [e0];rfl
end
end Go.Sp
end
end
section
/- Texts of this proof. -/
namespace Go.Sp
def u64 (n:Int):Nat:=(n % 18446744073709551616).toNat
def jN (n:Int) (i:Nat):UInt8:=UInt8.ofNat (u64 n / 256 ^ i)
def be (n:Int):List UInt8:=[jN n 7,jN n 6,jN n 5,jN n 4,jN n 3,jN n 2,jN n 1,jN n 0]
@[simp] theorem yY (n:Int):(be n).length=8:=rfl
theorem Xm (n:Int):u64 n<18446744073709551616:=by unfold u64;omega
theorem uz (n:Int):IntKind.u64.wrap n=(u64 n:Int):=by
 have:IntKind.u64.wrap n=n % 18446744073709551616:=by simp [IntKind.wrap,IntKind.bits,IntKind.signed]
 rw [this];unfold u64;omega
theorem LG (n:Int):IntKind.u8.wrap n=n % 256:=by simp [IntKind.wrap,IntKind.bits,IntKind.signed]
theorem K0 (n:Int) (i:Nat) (h:i<8) (z:Int) (hz:z=8*(i:Int)):IntKind.u8.wrap ((IntKind.u64.wrap n).fdiv (2 ^ min z.toNat IntKind.u64.bits))=((jN n i).toNat:Int):=by
 subst hz;have e1:min (8*(i:Int)).toNat IntKind.u64.bits=8*i:=by simp [IntKind.bits];omega
 rw [e1,uz,LG];have e2:((2:Int) ^ (8*i))=((256 ^ i:Nat):Int):=by
  rw [Int.pow_mul,Int.natCast_pow];rfl
 rw [e2];have bY:((u64 n:Nat):Int).fdiv ((256 ^ i:Nat):Int)=((u64 n / 256 ^ i:Nat):Int):=by
  rw [Int.fdiv_eq_ediv_of_nonneg _ (Int.natCast_nonneg _)];rfl
 rw [bY];unfold jN;have:(UInt8.ofNat (u64 n / 256 ^ i)).toNat=u64 n / 256 ^ i % 256:=by simp
 rw [this];omega
def nt (xs:List UInt8):Nat:=xs.foldl (fun n c=>n*256+c.toNat) 0
theorem Ms (xs:List UInt8) (c:UInt8):nt (xs++[c])=nt xs*256+c.toNat:=by simp [nt]
theorem Kc (n:Nat):256 ^ (n+1)=256 ^ n*256:=Nat.pow_succ ..
theorem GJ (xs:List UInt8) (i:Nat) (h:i<xs.length):nt (xs.take (i+1))=nt (xs.take i)*256+xs[i].toNat:=by
 rw [List.take_succ_eq_append_getElem h,Ms]
theorem BS (xs:List UInt8) (i:Nat):nt (xs.take i)<256 ^ i:=by
 induction i with
 |zero=>simp [nt]
 |succ i ih =>
  by_cases h:i<xs.length
  ·rw [GJ xs i h,Kc]
   have:=xs[i].toNat_lt
   omega
  ·have e:xs.take (i+1)=xs.take i:=by rw [List.take_of_length_le (by omega),List.take_of_length_le (by omega)]
   rw [e,Kc];omega
theorem Mr (xs:List UInt8) (i:Nat) (hi:i<8):nt (xs.take i)<72057594037927936 :=
 Nat.lt_of_lt_of_le (BS xs i) (Nat.le_trans (Nat.pow_le_pow_right (by decide) (show i≤7 by omega)) (by decide))
theorem TY (n:Nat) (c:UInt8) (hn:n<72057594037927936) :
  bitsOf .or .u64 (IntKind.u64.wrap ((n:Int)*2 ^ min (8:Int).toNat IntKind.u64.bits)) (IntKind.u64.wrap (c.toNat:Int))=((n*256+c.toNat:Nat):Int):=by
 have hc:=c.toNat_lt;have e0:((n:Int)*2 ^ min (8:Int).toNat IntKind.u64.bits)=((n*256:Nat):Int):=by simp [IntKind.bits]
 have w:∀ k:Nat,k<18446744073709551616→IntKind.u64.wrap (k:Int)=k:=fun k h=>by rw [uz];unfold u64;omega
 rw [e0, w _ (by omega), w _ (by omega)];have e1 : (n * 256) ||| c.toNat = n * 256 + c.toNat := by
  have:=Nat.shiftLeft_add_eq_or_of_lt (b:=c.toNat) (i:=8) (by omega) n;rw [Nat.shiftLeft_eq] at this;exact this.symm
 have e2:∀ k:Nat,k<18446744073709551616→(BitVec.ofInt IntKind.u64.bits (k:Int)).toNat=k:=fun k h=>by rw [BitVec.toNat_ofInt];simp only [IntKind.bits];omega
 simp only [bitsOf,BitVec.toNat_or];rw [e2 _ (by omega),e2 _ (by omega),e1,w _ (by omega)]
def uh (n:Nat):Int:=if n<9223372036854775808 then n else n - 18446744073709551616
theorem XC (n:Nat) (h:n<18446744073709551616):IntKind.i64.wrap (n:Int)=uh n:=by
 rw [IntKind.wrap_i64];unfold uh;split<;>omega
theorem VL (n:Nat) (h:n<18446744073709551616):cG (uh n):=by unfold uh cG;split<;>omega
theorem Mq (n:Int):nt (be n)=u64 n:=by
 have h:=Xm n;simp only [nt,be,List.foldl_cons,List.foldl_nil,jN,UInt8.toNat_ofNat'];generalize u64 n=k at h ⊢;simp only [show (256:Nat)^7=72057594037927936 from rfl,show (256:Nat)^6=281474976710656 from rfl,show (256:Nat)^5=1099511627776 from rfl,show (256:Nat)^4=4294967296 from rfl,show (256:Nat)^3=16777216 from rfl,show (256:Nat)^2=65536 from rfl,show (256:Nat)^1=256 from rfl,show (256:Nat)^0=1 from rfl]
 omega
theorem VK (n:Int) (h:cG n):uh (nt (be n))=n:=by
 rw [Mq];unfold uh u64;unfold cG at h;split<;>omega
def bytesOf (xs:List UInt8):List UInt8:=be xs.length++xs
@[simp] theorem GU (xs:List UInt8):(bytesOf xs).length=8+xs.length:=by simp [bytesOf]
end Go.Sp
end
end
section
/- Texts of this proof. -/
namespace Go.Sp
section
variable {ro:Option Nat} {P:Program} {fn:Func} {n:Nat} {R:Ending→World→Prop} {k:List Item} {σ:List (Nat × Value)} {D:List Deferred} {g:bk} {U ζ aO:List az} {ops:Array Oper} {L l:List Nat} {i d:Nat} {t e:TypeId} {x y z:Operand} {α:Type} {T:ag α}
theorem S.Lw {c:Code} (h:S ro P fn n R (.code c::.inLoop c::k) σ D g U):S ro P fn n R (.code (.loop c)::k) σ D g U :=
 S.loop (fun _:Unit=>True) (fun _=>σ) (fun _=>U) (fun _=>0) () trivial Sub.refl rfl fun _ _ _=>h
theorem aF.Wp {kb:IntKind} {a:Option Addr} {m c q:Nat} {nT:Int} (ht:P.underlying t=some (.slice e)) (he:(P.info? e).map (·.size)=some T.k) (hx:aA σ x=some (.slice a m c)) (hy:aA σ y=some (.int kb nT)) (hz:nT=(q:Int)) (hq:q≤c) :
  aF P (.slice t x none (some y) none) σ g U (.slice a q c) U :=
 fun o ρ w ho hk hw=>⟨w,by
  subst hz
  cases a<;>simp [execOp,ho,hk x _ hx,hk y _ hy,Instr.sliceAt,run_underlying ht,Instr.slice,Instr.sliceBounds,Instr.sliceBound,asIntOf,hq,run_sizeOf he,Addr.add],hw⟩
theorem aF.min2 {kd:IntKind} {a b:Int} (hx:aA σ x=some (.int kd a)) (hy:aA σ y=some (.int kd b)) :
  aF P (.call ⟨.builtin .min,#[x,y],#[t,t]⟩) σ g U (.int kd (if b<a then b else a)) U :=
 fun o ρ w ho hk hw=>⟨w,by
  simp [execOp,ho,hk x _ hx,hk y _ hy,resolve,invoke,builtin,Builtin.min_,Builtin.min2],hw⟩
theorem a_.app {U ζ aO:List az} {A:az} (s:a_ U A ζ):a_ (U++aO) A (ζ++aO):=by
 induction s with
 |here=>exact .here
 |there _ ih=>exact .there ih
theorem cK.ct {fl:Bool} {cn len:Nat} {z:List Value} {parts:Array (Nat × Operand)} {vs:List Value} {ys:List α} (ho:bG ops i n σ d (.buildSlice t len parts)) (hd:ed fl ops i l=true) (ht:P.underlying t=some (.slice e)) (he:dG P e T.k cn z) (hk:0<T.k)
  (hp:partsOf σ parts.toList 0=some vs) (hlen:parts.toList.length=len) (hvs:bV (T.rel Fr.emp) (vs.map (·.cells.toList)) ys) (gy:len*T.k≤16777216)
  (h:∀ a c,af P fn n R ops k D g l ((d,.slice a len c)::σ) (av T e (.slice a len c) ys::U)):aI P fn n R ops k D g fl (i::l) σ U :=
 cK.gd (K:=fun v ax =>∃ a c,v=.slice a len c∧ax =av T e v ys::U) ho rfl hd (fun _=>(bC.ct ht he hk hp hlen hvs gy).imp fun _ _ ⟨a,c,h1,h2⟩=>⟨_,⟨a,c,h1,rfl⟩,h2⟩)
  fun _ _ ⟨a,c,h1,h2⟩=>by subst h1;subst h2;exact h a c
theorem af.ct {cn len:Nat} {z:List Value} {parts:Array (Nat × Operand)} {vs:List Value} {ys:List α} (ho:bG ops i n σ d (.buildSlice t len parts)) (hd:eF ops [i] l=true) (ht:P.underlying t=some (.slice e)) (he:dG P e T.k cn z) (hk:0<T.k) (hp:partsOf σ parts.toList 0=some vs) (hlen:parts.toList.length=len) (hvs:bV (T.rel Fr.emp) (vs.map (·.cells.toList)) ys) (gy:len*T.k≤16777216) (h:∀ a c,af P fn n R ops k D g l ((d,.slice a len c)::σ) (av T e (.slice a len c) ys::U)):af P fn n R ops k D g (i::l) σ U:=cK.ct (fl:=false) ho (by simpa [ed] using hd) ht he hk hp hlen hvs gy h
theorem bO.ct {cn len:Nat} {z:List Value} {parts:Array (Nat × Operand)} {vs:List Value} {ys:List α} (ho:bG ops i n σ d (.buildSlice t len parts)) (_:true=true) (ht:P.underlying t=some (.slice e)) (he:dG P e T.k cn z) (hk:0<T.k) (hp:partsOf σ parts.toList 0=some vs) (hlen:parts.toList.length=len) (hvs:bV (T.rel Fr.emp) (vs.map (·.cells.toList)) ys) (gy:len*T.k≤16777216) (h:∀ a c,af P fn n R ops k D g l ((d,.slice a len c)::σ) (av T e (.slice a len c) ys::U)):aI P fn n R ops k D g true (i::l) σ U:=cK.ct (fl:=true) ho rfl ht he hk hp hlen hvs gy h
theorem cK.gT {fl:Bool} {cn:Nat} {z:List Value} {v u:Value} {xs ys:List α} (ho:bG ops i n σ d (.call ⟨.builtin .append,#[x,y],#[t,t]⟩)) (hd:ed fl ops i l=true) (ht:P.underlying t=some (.slice e)) (he:dG P e T.k cn z) (hk:0<T.k) (hx:aA σ x=some v) (hy:aA σ y=some u)
  (hl:a_ U (av T e u ys) aO) (hs:a_ aO (av T e v xs) ζ) (hb:(xs.length+ys.length)*cn≤140737488355328) (h63:xs.length+ys.length≤9223372036854775807)
  (h:∀ a c,af P fn n R ops k D g l ((d,.slice a (xs.length+ys.length) c)::σ) (av T e (.slice a (xs.length+ys.length) c) (xs++ys)::ζ)):aI P fn n R ops k D g fl (i::l) σ U :=
 cK.gd (K:=fun v' ax =>∃ a c,v' =.slice a (xs.length+ys.length) c∧ax =av T e v' (xs++ys)::ζ) ho rfl hd (fun _=>(bC.gT ht he hk hx hy hl.app hs.app hb h63).imp fun _ _ ⟨a,c,h1,h2⟩=>⟨_,⟨a,c,h1,rfl⟩,h2⟩)
  fun _ _ ⟨a,c,h1,h2⟩=>by subst h1;subst h2;exact h a c
theorem af.gT {cn:Nat} {z:List Value} {v u:Value} {xs ys:List α} (ho:bG ops i n σ d (.call ⟨.builtin .append,#[x,y],#[t,t]⟩)) (hd:eF ops [i] l=true) (ht:P.underlying t=some (.slice e)) (he:dG P e T.k cn z) (hk:0<T.k) (hx:aA σ x=some v) (hy:aA σ y=some u) (hl:a_ U (av T e u ys) aO) (hs:a_ aO (av T e v xs) ζ) (hb:(xs.length+ys.length)*cn≤140737488355328) (h63:xs.length+ys.length≤9223372036854775807) (h:∀ a c,af P fn n R ops k D g l ((d,.slice a (xs.length+ys.length) c)::σ) (av T e (.slice a (xs.length+ys.length) c) (xs++ys)::ζ)):af P fn n R ops k D g (i::l) σ U:=cK.gT (fl:=false) ho (by simpa [ed] using hd) ht he hk hx hy hl hs hb h63 h
theorem cK.nW {fl:Bool} {cn:Nat} {z:List Value} {v u:Value} {xs ys:List α} (ho:bG ops i n σ d (.call ⟨.builtin .append,#[x,y],#[t,t]⟩)) (hd:ed fl ops i l=true) (hT:T.Pure) (ht:P.underlying t=some (.slice e)) (he:dG P e T.k cn z) (hk:0<T.k) (hx:aA σ x=some v) (hy:aA σ y=some u)
  (hs:a_ U (av T e v xs) ζ) (hu:aj T g.h u ys) (hb:(xs.length+ys.length)*cn≤140737488355328) (h63:xs.length+ys.length≤9223372036854775807)
  (h:∀ a c,af P fn n R ops k D g l ((d,.slice a (xs.length+ys.length) c)::σ) (av T e (.slice a (xs.length+ys.length) c) (xs++ys)::ζ)):aI P fn n R ops k D g fl (i::l) σ U :=
 cK.gd (K:=fun v' ax =>∃ a c,v' =.slice a (xs.length+ys.length) c∧ax =av T e v' (xs++ys)::ζ) ho rfl hd (fun _=>(bC.nW hT ht he hk hx hy hs.app hu hb h63).imp fun _ _ ⟨a,c,h1,h2⟩=>⟨_,⟨a,c,h1,rfl⟩,h2⟩)
  fun _ _ ⟨a,c,h1,h2⟩=>by subst h1;subst h2;exact h a c
theorem af.nW {cn:Nat} {z:List Value} {v u:Value} {xs ys:List α} (ho:bG ops i n σ d (.call ⟨.builtin .append,#[x,y],#[t,t]⟩)) (hd:eF ops [i] l=true) (hT:T.Pure) (ht:P.underlying t=some (.slice e)) (he:dG P e T.k cn z) (hk:0<T.k) (hx:aA σ x=some v) (hy:aA σ y=some u) (hs:a_ U (av T e v xs) ζ) (hu:aj T g.h u ys) (hb:(xs.length+ys.length)*cn≤140737488355328) (h63:xs.length+ys.length≤9223372036854775807) (h:∀ a c,af P fn n R ops k D g l ((d,.slice a (xs.length+ys.length) c)::σ) (av T e (.slice a (xs.length+ys.length) c) (xs++ys)::ζ)):af P fn n R ops k D g (i::l) σ U:=cK.nW (fl:=false) ho (by simpa [ed] using hd) hT ht he hk hx hy hs hu hb h63 h
theorem cK.ot {v:Value} {xs:List α} {j:Nat} {kd:IntKind} (ho:bG ops i n σ d (.indexAddr t x y)) {fl:Bool} (hd:ed fl ops i l=true) (ht:P.underlying t=some (.slice e)) (he:(P.info? e).map (·.size)=some T.k) (hx:aA σ x=some v) {b_:Int} (hy:aA σ y=some (.int kd b_)) (dV:b_=(j:Int))
  (hs:a_ U (av T e v xs) ζ) (hj:j<xs.length) (h:∀ p,pY v T.k j p→af P fn n R ops k D g l ((d,.pointer (some p))::σ) U):aI P fn n R ops k D g fl (i::l) σ U :=
 aI.perm hs.perm (cK.gd (U:=av T e v xs::ζ) (K:=fun u ax =>∃ p,u=.pointer (some p)∧pY v T.k j p∧ax =av T e v xs::ζ) ho rfl hd
  (fun _=>(bC.ot ht he hx hy dV a_.here hj).imp fun _ _ ⟨p,a,b,c⟩=>⟨_,⟨p,a,b,rfl⟩,c⟩) fun _ _ ⟨p,a,b,c⟩=>by subst a;subst c;exact aI.perm hs.perm.symm (h p b))
theorem af.ot {v:Value} {xs:List α} {j:Nat} {kd:IntKind} (ho:bG ops i n σ d (.indexAddr t x y)) (hd:eF ops [i] l=true) (ht:P.underlying t=some (.slice e)) (he:(P.info? e).map (·.size)=some T.k) (hx:aA σ x=some v) {b_:Int} (hy:aA σ y=some (.int kd b_)) (dV:b_=(j:Int)) (hs:a_ U (av T e v xs) ζ) (hj:j<xs.length) (h:∀ p,pY v T.k j p→af P fn n R ops k D g l ((d,.pointer (some p))::σ) U):af P fn n R ops k D g (i::l) σ U:=cK.ot (fl:=false) ho (by simpa [ed] using hd) ht he hx hy dV hs hj h
theorem cK.rj {v u:Value} {xs:List α} {j q:Nat} {p:Addr} {a:α} (ho:ko ops q=some (.store t x y)) {fl:Bool} (hd:ed fl ops q l=true) (hsz:(P.info? t).map (·.size)=some T.k) (hx:aA σ x=some (.pointer (some p))) (hp:pY v T.k j p) (hy:aA σ y=some u)
  (hs:a_ U (av T e v xs) ζ) (hj:j<xs.length) (hu:T.rel Fr.emp u.cells.toList a) (h:af P fn n R ops k D g l σ (av T e v (xs.set j a)::ζ)):aI P fn n R ops k D g fl (q::l) σ U :=
 aI.perm hs.perm (cK.mS (U:=av T e v xs::ζ) (ax :=av T e v (xs.set j a)::ζ) ho rfl hd (fun _=>.rj hsz hx hp hy a_.here hj hu) h)
theorem af.rj {v u:Value} {xs:List α} {j q:Nat} {p:Addr} {a:α} (ho:ko ops q=some (.store t x y)) (hd:eF ops [q] l=true) (hsz:(P.info? t).map (·.size)=some T.k) (hx:aA σ x=some (.pointer (some p))) (hp:pY v T.k j p) (hy:aA σ y=some u) (hs:a_ U (av T e v xs) ζ) (hj:j<xs.length) (hu:T.rel Fr.emp u.cells.toList a) (h:af P fn n R ops k D g l σ (av T e v (xs.set j a)::ζ)):af P fn n R ops k D g (q::l) σ U:=cK.rj (fl:=false) ho (by simpa [ed] using hd) hsz hx hp hy hs hj hu h
theorem af.slot {v v' :Value} (q:Nat) (hl:look σ q=some v) (h0:v=v') (h:af P fn n R ops k D g L ((q,v')::σ) U):af P fn n R ops k D g L σ U:=af.weaken h (Sub.Cg hl h0 Sub.refl)
end
theorem Lv {a b:UInt8} (h:(a.toNat:Int)=b.toNat):a=b:=UInt8.toNat_inj.mp (by omega)
end Go.Sp
end
end
section
/- Texts of this proof. -/
namespace Go.Sp
theorem Holds.putObj {w:World} {g:bk} {U:List az} {b:Nat} {o:Obj} (o' :Obj) (h:Holds w g (blk b o::U)):Holds (w.putObj b o') g (blk b o' ::U):=by
 have hb:=h.block;have hlt:=(Array.getElem?_eq_some_iff.1 hb).1;exact h.setBlock (World.putObj_heap_same hlt) (fun i hi=>World.putObj_heap_other hi) rfl rfl rfl
def pW (l:Nat):Value:=.func (.yield l) #[] #[]
def gM (P:Program) (l:Nat) (args:Array Value) (r:Fr) (U:List az) (Post:Ending→List az→Prop):Prop :=
 ∀ g:bk,r.sub g.h→∀ w,Holds w g U→∃ f tmps assign body,(Instr.yield l args).run P w=.ok (.round l f tmps assign body) w ∧
  RoundIn Fence.wide 0 P l f tmps assign body w fun e w' =>∃ ax,Post e ax ∧Holds w' g ax
section ycon
variable {P:Program} {l:Nat} {args:Array Value} {r:Fr} {U:List az} {Post:Ending→List az→Prop}
theorem gM.sub {r' :Fr} (h:gM P l args r U Post) (hs:r.sub r'):gM P l args r' U Post:=fun g hr w hw=>h g (Fr.aH hs hr) w hw
theorem gM.frame {ζ:List az} (h:gM P l args r U Post):gM P l args r (U++ζ) fun e ax =>∃ cT,Post e cT∧ax =cT++ζ :=
 fun g hr w hw=>by
  obtain ⟨k,hk,hd,hw'⟩:=hw.zz;obtain ⟨f,t,a,b,h1,h2⟩:=h (g.add k) (Fr.aH hr (Fr.de _ _)) w hw';exact ⟨f,t,a,b,h1,h2.mono fun _ _ ⟨ax,x,y⟩=>⟨ax ++ζ,⟨ax,x,rfl⟩,y.FO hk hd⟩⟩
theorem gM.perm {ax :List az} (p:ax.Perm U) (h:gM P l args r U Post):gM P l args r ax Post:=fun g hr w hw=>h g hr w (hw.perm p)
end ycon
theorem Vy {P:Program} {ρ:Operand→Value} {o:Oper} {x:Operand} {xs:Array Operand} {ts:Array TypeId} {l:Nat} (ho:o.op=.call ⟨.value x,xs,ts⟩) (hx:ρ x=pW l) (w:World) :
  (execOp ρ o).run P w=(Instr.yield l (xs.map ρ)).run P w:=by
 have:(#[]:Array Value)++xs.map ρ=xs.map ρ:=by simp
 simp [execOp,ho,resolve,hx,Deferred.ofValue,invoke,pW]
section
variable {ro:Option Nat} {P:Program} {fn:Func} {n:Nat} {R:Ending→World→Prop} {k:List Item} {σ:List (Nat × Value)} {D:List Deferred} {g:bk} {U ζ aO:List az}
 {ops:Array Oper} {i d l:Nat} {ls:List Nat} {f:FuncId} {x y:Operand} {xs:Array Operand} {ts:Array TypeId} {bF:List Value} {K:Value→List az→Prop}
theorem O.yield (ho:bG ops i n σ d (.call ⟨.value x,xs,ts⟩)) (hx:aA σ x=some (pW l)) (hv:dS σ xs.toList=some bF) {args:Array Value} (hargs:bF.toArray=args) (con:gM P l args g.h U (aL K))
  (h:∀ v ax,K v ax →O ro P fn n R ops ls k ((d,v)::σ) D g (ax ++ζ)):O ro P fn n R ops (i::ls) k σ D g (U++ζ):=by
 intro a w hf hd hw
 obtain ⟨o,hi,eB,hop,hg,hb⟩:=ho.spec;have hm:xs.map a.eval=bF.toArray:=by rw [← qG hf.kn hv,← Array.toList_map]
 obtain ⟨f,tm,as,bd,h1,h2⟩:=(con.frame (ζ:=ζ)) g (Fr.bU _) w hw;have hrun:(execOp a.eval o).run P w=.ok (.round l f tm as bd) w:=by
  rw [Vy hop (hf.kn x _ hx) w,hm,hargs];exact h1
 refine O.mJ hi (hg a hf) (by rw [hop];intro c hc;cases hc) hrun ?_;rw [Oper.uponIn_round];refine ⟨fun h=>(by cases h),RoundIn.mono h2 fun e w' hh=>?_⟩;obtain ⟨ax,⟨cT,hp,rfl⟩,hw'⟩:=hh
 cases e with
 |returned v =>
  show wpOpsIn (nk ro) 0 P ops _ ls (a.put o.dst v) w'
  rw [eB];exact h v cT hp _ _ (hf.put hb) hd hw'
 |panicked _=>exact hp.elim
 |outgrown=>exact hp.elim
theorem Sat.pack {ws:List az} {A:az} {ζ:List az} (hA:∀ m,Sat ws m→A m) {m:Fr} (h:Sat (ws++ζ) m):Sat (A::ζ) m:=by
 obtain ⟨h1,h2,d,s1,s2,x,y⟩:=Sat.split h;exact ⟨h1,h2,d,s1,s2,hA _ x,y⟩
theorem Holds.pack {w:World} {ws:List az} {A:az} (hA:∀ m,Sat ws m→A m) (h:Holds w g (ws++ζ)):Holds w g (A::ζ):=h.imp fun _=>Sat.pack hA
theorem gM.imp {args:Array Value} {r:Fr} {Post:Ending→List az→Prop} (hs:∀ m,Sat U m→Sat ζ m) (h:gM P l args r ζ Post):gM P l args r U Post:=fun g hr w hw=>h g hr w (hw.imp hs)
theorem gM.s7 {args:Array Value} {r:Fr} {Post:Ending→List az→Prop} {α:Type} {A:α→az} (h:∀ x,gM P l args r (A x::U) Post):gM P l args r ((fun m=>∃ x,A x m)::U) Post:=fun g hr w hw=>by
 obtain ⟨p,q,rr,k,d,s1,s2,k1,k2,kd,t1,t2,⟨x,hx⟩,y⟩:=hw;exact h x g hr w ⟨p,q,rr,k,d,s1,s2,k1,k2,kd,t1,t2,hx,y⟩
theorem O.XM (ho:bG ops i n σ d (.call ⟨.value x,xs,ts⟩)) (hx:aA σ x=some (pW l)) (hv:dS σ xs.toList=some bF) {args:Array Value} (hargs:bF.toArray=args) {bs:List az} (hb:jM U bs ζ) (con:gM P l args g.h bs (aL K))
  (h:∀ v ax,K v ax →O ro P fn n R ops ls k ((d,v)::σ) D g (ax ++ζ)):O ro P fn n R ops (i::ls) k σ D g U :=
 fun a w hf hd hw=>O.yield ho hx hv hargs con h a w hf hd (hw.perm hb.perm)
theorem S.beginRound {L:Loop} (hs:a_ U (blk l (.loop L)) ζ) (hr:L.state=.ready) (h:S (some l) P fn n R k σ D g (blk l (.loop { L with state:=.busy })::ζ)):S (some l) P fn n R (.beginRound::k) σ D g U:=by
 intro a w hf hd hw b cs hb hfn
 have hw1:=hw.cr hs;obtain ⟨e,a',w',q,r⟩:=h a _ hf hd (hw1.putObj (.loop { L with state:=.busy })) b cs hb hfn;exact ⟨e,a',w',q,.of_steps (.one (fenced_wide P _) (stepR_beginRound hb (run_beginRound hw1.block hr))) r⟩
theorem S.Vw {L:Loop} (hs:a_ U (blk l (.loop L)) ζ) (h:∀ w,Holds w g (blk l (.loop { L with state:=.ready,pending:=none })::ζ)→R (.returned (.bool true)) w):S (some l) P fn n R [] σ D g U:=by
 intro a w hf hd hw
 have hw1:=hw.cr hs;exact .nil ⟨_,_,run_endRound none hw1.block,h _ (hw1.putObj _)⟩
def under:List Nat→List Value→List (Nat × Value)→List (Nat × Value)
 |p::ps,v::vs,σ=>under ps vs ((p,v)::σ)
 |_,_,σ=>σ
theorem HE:∀ (ps:List Nat) (vs:List Value) (tm:Array Value) (σ:List (Nat × Value)),(∀ p∈ps,Nat.blt p n=true)→Fits { tmps:=tm,defers:=[] } n σ →
  Fits { tmps:=(ps.zip vs).foldl (fun tmps (x:Nat × Value)=>tmps.setIfInBounds x.1 x.2) tm,defers:=[] } n (under ps vs σ)
 |[],_,_,_,_,h=>h
 |_::_,[],_,_,_,h=>h
 |p::ps,v::vs,tm,σ,hb,h=>by
  have:=h.put (v:=v) (hb p (List.mem_cons_self ..));exact HE ps vs _ _ (fun q hq=>hb q (List.mem_cons_of_mem _ hq)) this
theorem gM.of {L:Loop} {args:Array Value} {r:Fr} {U:List az} {Post:Ending→List az→Prop} (vs:List Value) (ps:List Nat) (ha:args=vs.toArray) (hps:L.params=ps.toArray) (mM:vs.length=ps.length)
  (hb:ps.all (fun p=>Nat.blt p n)=true) (hfn:∃ f,P.funcs[L.fn]?=some f) (hfit:Fits { tmps:=L.tmps,defers:=[] } n σ)
  (h:∀ g:bk,r.sub g.h→∀ R:Ending→World→Prop,(∀ e ax w',Post e ax →Holds w' g ax →R e w')→S (some l) P fn n R [.code L.assign,.beginRound,.code L.body] (under ps vs σ) [] g (blk l (.loop L)::U)) :
  gM P l args r (blk l (.loop L)::U) Post:=by
 intro g hr w hw
 subst ha;refine ⟨_,_,_,_,run_yield hw.block (by simp [hps,mM]),Vx (fn:=fn) hfn ?_⟩;refine h g hr _ (fun e ax w' hp hh=>⟨ax,hp,hh⟩) _ w ?_ rfl hw;have:=HE ps vs L.tmps σ (fun p hp=>List.all_eq_true.1 hb p hp) hfit;have e:L.params.zip vs.toArray=(ps.zip vs).toArray:=by rw [hps];simp
 rw [e,List.foldl_toArray];exact this
def qc (o7:FuncId) (tm:Array Value) (ps:Array Tmp) (assign body:Code) (jf:Nat):Loop:={ state:=.ready,pending:=none,fn:=o7,tmps:=tm,params:=ps,assign,body,defers:=jf }
theorem S.rangeFunc {first cap:Array Value} {ps:Array Tmp} {assign body:Code} {J:Option Code→List az→Prop} (hx:aA σ x=some (.func (.func f) first cap)) (hc:dA P f=true)
  (con:∀ (l jf o7:Nat) (tm:Array Value),(∃ fn',P.funcs[o7]?=some fn')→Fits { tmps:=tm,defers:=[] } n σ →
   ay P f (first++#[pW l]++cap) g.h (blk l (.loop (qc o7 tm ps assign body jf))::U) (aL fun _ ax =>∃ L ζ,L.state≠.busy∧J L.pending ζ∧ax =blk l (.loop L)::ζ))
  (h:∀ jf jump ζ,J jump ζ→S none P fn n R ((jump.map Item.code).toList++k) σ (⟨.collected jf,#[]⟩::D) g (blk jf (.deferred (some []))::ζ)) :
  S none P fn n R (.code (.rangeFunc x ps assign body)::k) σ D g U:=by
 intro a w hf hd hw b cs hb hfn
 have he:=run_enterLoop_outer (P:=P) (w:=w) b.fn a.tmps ps assign body;rw [← hb] at he;have hres:(resolve a.eval (rangeCall x (w.heap.size+1)) 0).run P ((w.alloc (.deferred (some []))).alloc (.loop (qc b.fn a.tmps ps assign body w.heap.size))) =
   .ok ⟨.fn (.func f) cap,first++#[pW (w.heap.size+1)]⟩ ((w.alloc (.deferred (some []))).alloc (.loop (qc b.fn a.tmps ps assign body w.heap.size))):=by
  have hce:∀ v,a.eval (.const v)=v:=fun _=>rfl
  simp [rangeCall,resolve,hf.eval hx,Deferred.ofValue,pW,hce]
 have hinv:(invoke (Target.fn (.func f) cap) (first++#[pW (w.heap.size+1)])).run P ((w.alloc (.deferred (some []))).alloc (.loop (qc b.fn a.tmps ps assign body w.heap.size))) =
   .ok (.enter f (first++#[pW (w.heap.size+1)]++cap)) ((w.alloc (.deferred (some []))).alloc (.loop (qc b.fn a.tmps ps assign body w.heap.size))):=by
  simp only [invoke];exact A0 hc _ _
 have xm:=stepR_rangeFunc (P:=P) (b:=b) (a:=a) (k:=k) (cs:=cs) (w:=w) he hres hinv;have hw1:=(hw.alloc (.deferred (some []))).alloc (.loop (qc b.fn a.tmps ps assign body w.heap.size));have hsz:(w.alloc (.deferred (some []))).heap.size=w.heap.size+1:=by simp
 rw [hsz] at hw1;have hc1:=(con (w.heap.size+1) w.heap.size b.fn a.tmps hfn ⟨hf.1,hf.2⟩).frame (ζ:=[blk w.heap.size (.deferred (some []))]) g (Fr.bU _) _
  (hw1.perm (List.Perm.cons _ (List.perm_append_comm (l₁:=[_]) (l₂:=U))))
 obtain ⟨e,w₃,fr,hR,qS,og,hleave⟩:=hc1 (b.atR { a with defers:=[⟨.collected w.heap.size,#[]⟩]++a.defers } (.inRangeFunc (w.heap.size+1)::k)::cs);obtain ⟨ax,⟨cT,hp,rfl⟩,I2⟩:=hR
 cases e with
 |panicked _=>exact hp.elim
 |outgrown=>exact hp.elim
 |returned v =>
  obtain ⟨L,ζ,Pd,hJ,rfl⟩:=hp;have QU:=I2.putObj (o:=.loop L) (.loop { L with state:=.exhausted });have hend:=run_endLoop (P:=P) I2.block Pd;have QV:Holds (w₃.putObj (w.heap.size+1) (.loop { L with state:=.exhausted })) g (blk w.heap.size (.deferred (some []))::ζ):=(Holds.drop QU).perm List.perm_append_comm;have V2:StepsIn (Machine.fenced P Fence.wide) P (lone (b.atR a (.code (.rangeFunc x ps assign body)::k)) cs w)
    (lone (b.atR { a with defers:=[⟨.collected w.heap.size,#[]⟩]++a.defers } ((L.pending.map Item.code).toList++k)) cs (w₃.putObj (w.heap.size+1) (.loop { L with state:=.exhausted }))):=by
   refine .head (fenced_wide P _) xm (StepsIn.trans (stepsIn_wide.2 qS) (.head (fenced_wide P _) ?_ (.one (fenced_wide P _) (stepR_endRangeFunc hend))));rw [← finish_atR_inRangeFunc (w.heap.size+1) v];exact step_leave_returned hleave
  obtain ⟨e,a',w',q,r⟩:=h w.heap.size L.pending ζ hJ { a with defers:=[⟨.collected w.heap.size,#[]⟩]++a.defers } _ ⟨hf.1,hf.2⟩ (by simp [hd]) QV b cs hb hfn;exact ⟨e,a',w',q,.of_steps V2 r⟩
inductive Marks:List Deferred→List az→List az→Prop
 |nil {U:List az}:Marks [] U U
 |cons {jf:Nat} {D:List Deferred} {U ζ aO:List az} (hs:a_ U (blk jf (.deferred (some []))) aO) (h:Marks D aO ζ):Marks (⟨.collected jf,#[]⟩::D) U ζ
theorem Marks.lv {tmps:Array Value} (m:Marks D U ζ):∀ {w:World},Holds w g U→(∀ w',Holds w' g ζ→Leaves P fn tmps R [] .returning w')→eP P fn tmps R D .returning w:=by
 induction m with
 |nil=>exact fun hw h=>h _ hw
 |cons hs m ih =>
  intro w hw h
  have hw1:=hw.cr hs;exact ⟨by simp,.inl ⟨_,_,rfl,run_takeDeferred hw1.block,ih (hw1.putObj _).drop h⟩⟩
def Fv (tmps:Array Value):ResultVar→Sem Value
 |.tmp t=>pure (tmps.getD t undef)
 |.cell a t=>do loadVar t (← asAddr (tmps.getD a undef))
def yP (P:Program) (n:Nat) (σ:List (Nat × Value)) (g:bk) (ζ:List az) (r:ResultVar) (v:Value):Prop:=∀ a w,Fits a n σ→Holds w g ζ→(Fv a.tmps r).run P w=.ok v w
theorem yP.tmp {t:Nat} {v:Value} (hl:look σ t=some v):yP P n σ g ζ (.tmp t) v:=fun a w hf hw=>by
 have:=hf.2 t v hl
 simp [Fv,Array.getD_eq_getD_getElem?,this]
theorem Vm (tmps:Array Value):results fn tmps=(do
  let vs ← fn.results.mapM (Fv tmps)
  pure (if h:vs.size=1 then vs[0] else .tuple vs)):=rfl
theorem results1 {a:Act} {w:World} {r:ResultVar} {v:Value} (hr:fn.results=#[r]) (h:yP P n σ g ζ r v) (hf:Fits a n σ) (hw:Holds w g ζ):(results fn a.tmps).run P w=.ok v w:=by
 rw [Vm];simp [hr,Sem.run_bind,h a w hf hw,Result.andThen]
def Gg (todo:List Item):Prop:=todo=[]∨∃ k,todo=.code .ret::k
theorem S.off {todo:List Item} (ht:Gg todo) (h:∀ a w,Fits a n σ→a.defers=D→Holds w g U→eP P fn a.tmps R D .returning w):S none P fn n R todo σ D g U:=by
 rcases ht with rfl|⟨k,rfl⟩
 ·intro a w hf hd hw;refine .nil ?_;show eP P fn a.tmps R a.defers .returning w;rw [hd];exact h a w hf hd hw
 ·intro a w hf hd hw;refine .ret ?_;show eP P fn a.tmps R a.defers .returning w;rw [hd];exact h a w hf hd hw
theorem S.Vp {todo:List Item} {r1:ResultVar} {v1:Value} (ht:Gg todo) (m:Marks D U ζ) (hr:fn.results=#[r1]) (h1:yP P n σ g ζ r1 v1) (h:∀ w,Holds w g ζ→R (.returned v1) w):S none P fn n R todo σ D g U :=
 S.off ht fun _ _ hf _ hw=>m.lv hw fun w' hw' =>⟨_,results1 hr h1 hf hw',h w' hw'⟩
theorem S.c7 {todo:List Item} {b:Nat} {T:TypeId} {cs cs' :List Value} (s:a_ U (obj b T cs) ζ) (e:cs=cs') (h:S ro P fn n R todo σ D g (obj b T cs' ::ζ)):S ro P fn n R todo σ D g U:=S.cr s (e ▸ h)
end
end Go.Sp
end
end
