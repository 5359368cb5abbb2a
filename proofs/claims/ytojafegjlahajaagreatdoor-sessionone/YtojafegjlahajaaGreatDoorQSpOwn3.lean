/- Texts of this proof, one behind the other. -/
import Derived.Test.YtojafegjlahajaaGreatDoorQSpOwn
set_option linter.unusedSectionVars false
section
/- Texts of this proof, one behind the other. -/
section
/- Texts of this proof. -/
namespace Go.Sp
section
variable {ro:Option Nat} {P:Program} {σ σ' :List (Nat × Value)} {g:bh} {U ax ζ aN:List az} {t e:TypeId} {x y:Operand}
theorem aD.UE {k:Nat} {kh:IntKind} {m:Nat} (ht:P.underlying t=some (.slice e)) (he:(P.info? e).map (·.size)=some k) (hx:aA σ x=some (.slice none 0 0)) (hy:aA σ y=some (.int kh (m:Int))) (hm:m=0) :
  aD P (.slice t x none (some y) none) σ g U (.slice none 0 0) U:=by
 subst hm;exact .run fun o ρ w ho hk=>by simp [execOp,ho,hk x _ hx,hk y _ hy,Instr.sliceAt,run_underlying ht,Instr.slice,Instr.sliceBounds,Instr.sliceBound,asIntOf,run_sizeOf he]
theorem bE.Lj {α:Type} {T:ag α} {ck:Nat} {z:List Value} {a:α} {m:Nat} {t2:TypeId} {xq pQ:IntKind} (ht:P.underlying t=some (.slice e)) (ht2:P.underlying t2=some (.int xq)) (he:dy P e T.k ck z) (hk:0<T.k) (hz:T.rel Fr.emp z a)
  (hx:aA σ x=some (.slice none 0 0)) {cA:Int} (hy:aA σ y=some (.int pQ cA)) (ev:cA=(m:Int)) (hb:m*ck≤140737488355328) (h63:m≤9223372036854775807) (h0:0<m) :
  bE P (.call ⟨.builtin .append,#[x,y],#[t,t2]⟩) σ g U fun v' ax =>∃ a' c,v' =.slice a' m c∧ax =av T e v' (List.replicate m a)::U:=by
 subst ev
 intro o ρ w ho hkn hw
 obtain ⟨i,cz,hi,rO,hsz,hby,kv,hzl⟩:=he;subst hby kv;have hzs:cz.cells.size=T.k:=by simpa using hzl
 have wl:IntKind.i64.wrap (m:Int)=m:=by rw [IntKind.wrap_i64];omega
 have n1:¬ ((m:Int)<0):=by omega
 have n2:¬ (281474976710656<(m:Int)*(i.bytes:Int)):=by
  have:((m*i.bytes:Nat):Int)≤140737488355328:=by omega
  rw [Int.natCast_mul] at this;omega
 have n3:m≠0:=by omega
 have o6:¬ (9223372036854775807<(m:Int)):=by omega
 have n5:¬ (281474976710656<Builtin.nextslicecap m 0*i.bytes):=by rw [nextslicecap_zero h0];omega
 have n6:m*i.size≠0:=by rw [hsz];exact Nat.ne_of_gt (Nat.mul_pos h0 hk)
 have hge:=grownCap_ge w m 0 e;have hcm:=grownCap_le_maxLen w m 0 e (by simpa [maxLen] using h63);have hrun:(Builtin.append_ #[t,t2] o.type #[.slice none 0 0,.int pQ (m:Int)]).run P w=.ok (.slice (some ⟨w.heap.size,0,none⟩) m (grownCap w m 0 e)) (w.drew.alloc (.cells (Builtin.zeroCells cz.cells m++Builtin.zeroCells cz.cells (grownCap w m 0 e - m)) e)):=by
  simp [Builtin.append_,run_underlying ht,run_underlying ht2,sizeOf,typeInfo,zeroValue,hi,rO,asInt,asIntOf,wl,n1,n2,n3,o6,n5,n6,Question.forced,Builtin.firstCells,newRow,grownCap]
 obtain ⟨ak,q1,q2⟩:=Ap hz m;have pN:∀ q,(Builtin.zeroCells cz.cells q).toList=e9 cz.cells.toList q:=fun q=>by
  have:=xC cz.cells q (by omega);rw [← this];rfl
 refine ⟨_,_,_,⟨_,_,rfl,rfl⟩,pU ho (by rw [hkn x _ hx,hkn y _ hy];exact hrun),?_⟩;refine (((hw.drewN _ (Nat.le_add_right _ _)).alloc _).own (k:=T.k) (m:=m) (cap:=grownCap w m 0 e) (cs:=ak.flatten) hge (by simpa [maxLen] using hcm) ?_ ?_).imp fun _=>Sat.fe (av.of q1 (by simp) rfl rfl) fun _ q=>q
 ·simp only [Array.size_append,size_zeroCells,hzs,← Nat.add_mul]
  congr 1;omega
 ·rw [Array.toList_append,pN,q2,List.take_append]
  rw [List.take_of_length_le (by rw [rT];simp [hzs]),rT]
  simp [hzs]
theorem bE.MC {α:Type} {T:ag α} {v:Value} {xs:List α} {m:Nat} {kh:IntKind} {cA:Int} (ht:P.underlying t=some (.slice e)) (he:(P.info? e).map (·.size)=some T.k) (hx:aA σ x=some v) (hy:aA σ y=some (.int kh cA)) (ev:cA=(m:Int))
  (hs:bf U (av T e v xs) ζ) (hm:m≤xs.length):bE P (.slice t x none (some y) none) σ g U fun v' ax =>∃ a c,v' =.slice a m c∧ax =av T e v' (xs.take m)::ζ:=by
 subst ev
 intro o ρ w ho hk hw
 obtain ⟨p1,p2,p3,K,nV,s1,s2,k1,k2,kd,t1,t2,⟨ak,ha,hl,hA⟩,hr⟩:=hw.cu hs;have hml:m*T.k≤xs.length*T.k:=Nat.mul_le_mul_right _ hm;have hmin:min m xs.length=m:=Nat.min_eq_left hm
 rcases hA with ⟨rfl,h0⟩|⟨b,cap,cur,rfl,hb,h1,h2,h3,h4⟩
 ·have hm0:m=0:=by omega
  subst hm0;refine ⟨.slice none 0 0,w,_,⟨none,0,rfl,rfl⟩,?_,p1,p2,p3,K,nV,s1,s2,k1,k2,kd,t1,t2,⟨[],trivial,by simp,.inl ⟨rfl,by simp⟩⟩,hr⟩
  simp [execOp,ho,hk x _ hx,hk y _ hy,Instr.sliceAt,run_underlying ht,Instr.slice,Instr.sliceBounds,Instr.sliceBound,asIntOf,run_sizeOf he]
 ·have zk:m≤cap:=by omega
  refine ⟨.slice (some ⟨b,0,none⟩) m cap,w,_,⟨_,_,rfl,rfl⟩,?_,p1,p2,p3,K,nV,s1,s2,k1,k2,kd,t1,t2,⟨ak.take m,ha.take m,?_,.inr ⟨b,cap,cur,?_,hb,?_,h2,h3,?_⟩⟩,hr⟩
  ·have e1:(⟨b,0,none⟩:Addr).add 0=⟨b,0,none⟩:=rfl
   simp [execOp,ho,hk x _ hx,hk y _ hy,Instr.sliceAt,run_underlying ht,Instr.slice,Instr.sliceBounds,Instr.sliceBound,asIntOf,run_sizeOf he,zk,e1]
  ·rw [← ha.sM,List.length_take,hl,List.length_take,hmin];exact Nat.min_eq_left hml
  ·rw [List.length_take,hmin]
  ·rw [List.length_take,hmin];exact zk
  ·rw [List.length_take,hmin,← ha.sM,← h4,List.take_take,Nat.min_eq_left hml]
end
theorem Sat.tail' {A:az} {U:List az} {m:Fr}:Sat (A::U) m→Sat U m:=fun ⟨_,_,_,_,s,_,y⟩=>Sat.mono s y
theorem fK {b:Nat} {T:TypeId} {cs:List Value} {m:Fr} (h:obj b T cs m):At m ⟨b,0,none⟩ cs:=fun j hj=>by
 rw [add_lit];have:m b=some (.cells cs.toArray T (0,0)):=h
 simp [Fr.cell,this,hj]
theorem zU {b:Nat} {T:TypeId} {cs:List Value} {h m:Fr} (x:obj b T cs m) (hd:h.cI m):At (h.add m) ⟨b,0,none⟩ cs:=(fK x).mono (Fr.dA hd)
theorem At.left {h m:Fr} {p:Addr} {cs:List Value} (x:At h p cs):At (h.add m) p cs:=x.mono (Fr.cw _ _)
theorem Holds.iR {w:World} {g:bh} {U:List az} {k:Fr} (h:Holds w (g.add k) U) (hd:g.h.cI k):Holds w g U:=(h.oo (A:=fun _=>True) trivial hd).drop
inductive jv:List az→List az→Prop
 |all {U:List az}:jv U U
 |nil {U:List az}:jv U []
 |cons {U ζ bs:List az} {A:az} (h:bf U A ζ) (h2:jv ζ bs):jv U (A::bs)
 |skip {U bs:List az} {A:az} (h:jv U bs):jv (A::U) bs
theorem Sat.jH {U bs:List az} (p:jv U bs):∀ {h:Fr},Sat U h→Sat bs h:=by
 induction p with
 |all=>exact fun x=>x
 |nil=>exact fun _=>trivial
 |cons s p ih=>exact fun x=>Sat.fe (fun _ y=>y) (fun _=>ih) (Sat.perm s.perm x)
 |skip p ih=>exact fun x=>ih x.tail'
theorem Holds.jH {w:World} {g:bh} {U bs:List az} (h:Holds w g U) (p:jv U bs):Holds w g bs:=h.imp fun _=>Sat.jH p
theorem Holds.end_ {w:World} {g:bh} {U:List az} {Post:Ending→List az→Prop} {R:Ending→World→Prop} {e:Ending} (hR:∀ e ax w',Post e ax →Holds w' g ax →R e w') (hw:Holds w g U) (h:∃ ax,Post e ax ∧jv U ax):R e w :=
 let ⟨_,p,q⟩:=h;hR _ _ w p (hw.jH q)
theorem Holds.fst {w:World} {g:bh} {A:az} {U:List az} (h:Holds w g (A::U)):Holds w g [A]:=h.imp fun _=>Sat.fe (fun _ x=>x) fun _ _=>trivial
theorem Holds.Nh {w:World} {g:bh} {A B:az} {U:List az} (h:Holds w g (A::B::U)):Holds w g [A,B]:=h.imp fun _=>Sat.fe (fun _ x=>x) fun _=>Sat.fe (fun _ x=>x) fun _ _=>trivial
theorem Sat.arr {α:Type} {T:ag α} {e:TypeId} {v:Value} {xs:List α} {U:List az} {m:Fr}:Sat (av T e v xs::U) m→aj T m v xs
 |⟨_,_,_,s,_,x,_⟩=>(av.arr x).mono s
theorem Sat.tail {A:az} {U:List az} {m:Fr}:Sat (A::U) m→Sat U m
 |⟨_,_,_,_,s,_,y⟩=>y.mono s
theorem aj.left {α:Type} {T:ag α} {v:Value} {xs:List α} {h m:Fr} (x:aj T h v xs):aj T (h.add m) v xs:=x.mono (Fr.cw _ _)
theorem aj.right {α:Type} {T:ag α} {v:Value} {xs:List α} {h m:Fr} (x:aj T m v xs) (hd:h.cI m):aj T (h.add m) v xs:=x.mono (Fr.dA hd)
theorem bt {g g' :bh} {Post:Ending→List az→Prop} {R:Ending→World→Prop} (hR:∀ e ax w',Post e ax →Holds w' g ax →R e w') (hm:∀ w ζ,Holds w g' ζ→Holds w g ζ) :
  ∀ e ax w',Post e ax →Holds w' g' ax →R e w' :=fun e ax w' p h=>hR e ax w' p (hm w' ax h)
theorem eD {g g' G3 :bh} (h1:∀ w ζ,Holds w g' ζ→Holds w g ζ) (h2:∀ w ζ,Holds w G3 ζ→Holds w g' ζ):∀ w ζ,Holds w G3 ζ→Holds w g ζ:=fun w ζ h=>h1 w ζ (h2 w ζ h)
theorem cW {g:bh}:∀ w ζ,Holds w g ζ→Holds w g ζ:=fun _ _ h=>h
section
variable {ro:Option Nat} {P:Program} {fn:Func} {n:Nat} {R:Ending→World→Prop} {k:List Item} {σ:List (Nat × Value)} {D:List Deferred} {g:bh} {U ζ:List az} {ops:Array Oper} {L:List Nat}
theorem S.iR {g' :bh} {todo:List Item} (hm:∀ w ζ,Holds w g' ζ→Holds w g ζ) (h:S ro P fn n R todo σ D g U):S ro P fn n R todo σ D g' U:=fun a w hf hd hw=>h a w hf hd (hm _ _ hw)
theorem S.pk {todo:List Item} (p:jv U ζ) (h:S ro P fn n R todo σ D g ζ):S ro P fn n R todo σ D g U:=fun a w hf hd hw=>h a w hf hd (hw.jH p)
theorem S.eC {todo:List Item} {A:az} (s:bf U A ζ) (h:∀ g' :bh,g.h.sub g'.h→(∀ w ζ,Holds w g' ζ→Holds w g ζ)→(∃ m:Fr,A m∧m.sub g'.h)→S ro P fn n R todo σ D g' ζ):S ro P fn n R todo σ D g U :=
 S.cu s (S.freeze fun m hm hd=>h (g.add m) (Fr.cw _ _) (fun _ _ x=>x.iR hd) ⟨m,hm,Fr.dA hd⟩)
theorem O.eC {A:az} (s:bf U A ζ) (h:∀ g' :bh,g.h.sub g'.h→(∀ w ζ,Holds w g' ζ→Holds w g ζ)→(∃ m:Fr,A m∧m.sub g'.h)→O ro P fn n R ops L k σ D g' ζ):O ro P fn n R ops L k σ D g U :=
 O.cu s (O.freeze fun m hm hd=>h (g.add m) (Fr.cw _ _) (fun _ _ x=>x.iR hd) ⟨m,hm,Fr.dA hd⟩)
theorem S.fB {todo:List Item} {α:Type} {T:ag α} {e:TypeId} {v:Value} {xs:List α} (s:bf U (av T e v xs) ζ) (h:∀ g' :bh,g.h.sub g'.h→(∀ w ζ,Holds w g' ζ→Holds w g ζ)→aj T g'.h v xs→S ro P fn n R todo σ D g' ζ):S ro P fn n R todo σ D g U :=
 S.eC s fun g' h1 h2 ⟨_,h3,h4⟩=>h g' h1 h2 (h3.arr.mono h4)
theorem O.fB {α:Type} {T:ag α} {e:TypeId} {v:Value} {xs:List α} (s:bf U (av T e v xs) ζ) (h:∀ g' :bh,g.h.sub g'.h→(∀ w ζ,Holds w g' ζ→Holds w g ζ)→aj T g'.h v xs→O ro P fn n R ops L k σ D g' ζ):O ro P fn n R ops L k σ D g U :=
 O.eC s fun g' h1 h2 ⟨_,h3,h4⟩=>h g' h1 h2 (h3.arr.mono h4)
theorem O.Ng {α:Type} {T:ag α} {v:Value} {xs:List α} (s:bf U (fun m=>aj T m v xs) ζ) (h:∀ g' :bh,g.h.sub g'.h→(∀ w ζ,Holds w g' ζ→Holds w g ζ)→aj T g'.h v xs→O ro P fn n R ops L k σ D g' ζ):O ro P fn n R ops L k σ D g U :=
 O.eC s fun g' h1 h2 ⟨_,h3,h4⟩=>h g' h1 h2 (h3.mono h4)
theorem S.cV {todo:List Item} {b:Nat} {T:TypeId} {cs:List Value} (s:bf U (obj b T cs) ζ) (h:∀ g' :bh,g.h.sub g'.h→(∀ w ζ,Holds w g' ζ→Holds w g ζ)→At g'.h ⟨b,0,none⟩ cs→S ro P fn n R todo σ D g' ζ):S ro P fn n R todo σ D g U :=
 S.eC s fun g' h1 h2 ⟨_,h3,h4⟩=>h g' h1 h2 ((fK h3).mono h4)
theorem O.cV {b:Nat} {T:TypeId} {cs:List Value} (s:bf U (obj b T cs) ζ) (h:∀ g' :bh,g.h.sub g'.h→(∀ w ζ,Holds w g' ζ→Holds w g ζ)→At g'.h ⟨b,0,none⟩ cs→O ro P fn n R ops L k σ D g' ζ):O ro P fn n R ops L k σ D g U :=
 O.eC s fun g' h1 h2 ⟨_,h3,h4⟩=>h g' h1 h2 ((fK h3).mono h4)
end
theorem aW {U:List az}:jv U U:=.all
theorem aY {U:List az}:jv U []:=.nil
theorem aX {U ζ aN:List az} {A:az} (h:bf U A ζ) (k:jv ζ aN):jv U (A::aN):=.cons h k
theorem aZ {A:az} {U aN:List az} (k:jv U aN):jv (A::U) aN:=.skip k
end Go.Sp
end
section
/- Texts of this proof. -/
namespace Go.Sp
theorem DW {P:Program} {fn:Func} {tmps:Array Value} {R:Ending→World→Prop}:∀ (ds:List Deferred) (u:FrameMode) (w:World) (fr:Frame)
  (cs:List Frame),fr.mode=u→fr.defers=ds→fr.tmps=tmps→P.funcs[fr.fn]?=some fn→fr.kind=.deferred→eG P fn tmps R ds u w →
  ∃ e w' fr',R e w' ∧Comes P (lone fr cs w) (lone fr' cs w') e∧fr'.kind=.deferred∧fr'.going P w' e:=by
 intro ds
 induction ds with
 |nil =>
  intro u w fr cs hu hd ht hf hk h
  cases u with
  |run=>exact h.elim
  |returning =>
   obtain ⟨v,hr,hR⟩:=h;exact ⟨.returned v,w,fr,hR,Steps.refl P _,hk,hu,hd,fn,hf,ht ▸ hr⟩
  |panicking chain=>exact ⟨.panicked chain,w,fr,h,Steps.refl P _,hk,hu,hd,fn,hf⟩
 |cons d ds ih =>
  intro u w fr cs hu hd ht hf hk h
  obtain ⟨hrun,h⟩:=h
  rcases h with ⟨r,w',tq,DG,DC⟩|⟨fv,cap,f,args,tq,hinv,s0⟩
  ·have h1:=step_collected (cs:=cs) (hu ▸ hrun) hd tq DG
   obtain ⟨e',w'',fr',oL,hs',nW,hl'⟩:=ih u w' { fr with defers:=[]++ds } cs hu rfl ht hf hk DC;exact ⟨e',w'',fr',oL,Comes.of_steps (.one h1) hs',nW,hl'⟩
  have h1:=step_defer (cs:=cs) (hu ▸ hrun) hd tq hinv;obtain ⟨e,u',w',Nc,hR,qz,C3,wO⟩:=s0 { fr with defers:=ds } cs hu
  cases e with
  |returned v =>
   have h2:=step_going_returned (c:={ { fr with defers:=ds } with mode:=u' }) (cs:=cs) C3 wO;obtain ⟨e',w'',fr',oL,hs',nW,hl'⟩:=ih (settle u') w' { { { fr with defers:=ds } with mode:=u' } with mode:=settle u' } cs rfl rfl ht hf hk hR;exact ⟨e',w'',fr',oL,Comes.of_steps (.head h1 (Steps.trans qz (.one h2))) hs',nW,hl'⟩
  |panicked chain =>
   have h2:=step_going_panicked (c:={ { fr with defers:=ds } with mode:=u' }) (cs:=cs) wO;obtain ⟨e',w'',fr',oL,hs',nW,hl'⟩:=ih (raised u' chain) w' { { { fr with defers:=ds } with mode:=u' } with mode:=raised u' chain } cs rfl rfl ht hf hk hR;exact ⟨e',w'',fr',oL,Comes.of_steps (.head h1 (Steps.trans qz (.one h2))) hs',nW,hl'⟩
  |outgrown=>exact ⟨.outgrown,w',fr,hR,Outgrown.of_steps (.one h1) qz,hk,trivial⟩
def mI:FrameMode→Value
 |.panicking ({ v,recovered:=false,goexit:=false }::_)=>v
 |_=>.nilIface
def k_:FrameMode→FrameMode
 |.panicking ({ v,recovered:=false,goexit:=false }::older)=>.panicking ({ v,recovered:=true }::older)
 |u=>u
def JP (ops:Array Oper) (n:Nat):Option (Nat × Nat) :=
 match (ops[0]?:Option Oper),(ops[1]?:Option Oper),(ops[2]?:Option Oper) with
 |some ⟨some d,.call ⟨.builtin .recover,_,_⟩,_,_,_,none⟩,some ⟨some e,.assign (.tmp d'),_,_,_,none⟩,none =>
  match Nat.beq d d',Nat.blt d n,Nat.blt e n with|true,true,true=>some (d,e)|_,_,_=>none
 |_,_,_=>none
theorem Ty (c:Frame) (cs:List Frame):recoverD (c::cs)=none∧mI c.mode=.nilIface∧k_ c.mode=c.mode∨recoverD (c::cs)=some (mI c.mode,{ c with mode:=k_ c.mode }::cs):=by
 obtain ⟨fn,tmps,todo,defers,mode,kind,ro⟩:=c;unfold recoverD mI k_
 cases mode with
 |run=>left;simp
 |returning=>left;simp
 |panicking ch =>
  cases ch with
  |nil=>left;simp
  |cons p older =>
   obtain ⟨v,r,ge⟩:=p
   cases r<;>cases ge<;>simp
theorem nO {P:Program} {f:FuncId} {fn:Func} {id:Nat} {ops:Array Oper} {rest:Code} {args:Array Value} {u:FrameMode} {w:World} {R:Ending→World→Prop} {n d e:Nat} (vs:List Value) (ha:args=vs.toArray)
  (hf:P.funcs[f]?=some fn) (hb:fn.body=some (.seq (.region id ops false) rest)) (hn:fn.ntmps=n) (hle:Nat.ble vs.length n=true) (rK:JP ops n=some (d,e))
  {g:bh} {U:List az} (hw:Holds w g U)
  (h:S none P fn n R [.code rest] ((e,mI u)::(d,mI u)::slots vs 0) [] g U) :
  CallsD P f args u w fun e' u' w' =>u' =k_ u∧R e' w' :=by
 intro c cs N7
 let b:Frame:={ (default:Frame) with fn:=f,kind:=.deferred }
 subst ha hn
 let a₀:Act:={ tmps:=vs.toArray++Array.replicate (fn.ntmps - vs.toArray.size) undef,defers:=[] }
 have wL:Frame.enter P f vs.toArray .deferred=b.at a₀ [.code (.seq (.region id ops false) rest)]:=by
  simp [Frame.enter,Frame.at,hf,hb,b,a₀]
 have hfit:Fits a₀ fn.ntmps (slots vs 0):=by
  refine ⟨?_,?_⟩
  ·have:vs.length≤fn.ntmps:=Nat.le_of_ble_eq_true hle
   simp [a₀];omega
  ·intro t v hl
   obtain ⟨_,h2⟩:=D1 vs 0 t v hl;simp only [Nat.sub_zero] at h2;have:t<vs.length:=by
    rcases Nat.lt_or_ge t vs.length with q|q
    ·exact q
    ·rw [List.getElem?_eq_none q] at h2;cases h2
   simp only [a₀];rw [Array.getElem?_append_left (by simpa using this)]
   simpa using h2
 unfold JP at rK
 split at rK
 case h_2=>cases rK
 rename_i d1 VU Vu YI pos1 Wb e1 d1' YJ pos2 Wc Ow zq s7
 split at rK
 case h_2=>cases rK
 rename_i hq1 tf Dq
 cases rK
 have:=Nat.eq_of_beq_eq_true hq1;subst this;have hsz:ops.size=2:=by
  have h1:=(Array.getElem?_eq_some_iff.1 zq).1;have h2:=Array.getElem?_eq_none_iff.1 s7
  omega
 let a₁:Act:=a₀.put (some d) (mI u)
 let a₂:Act:=a₁.put (some e) (mI u)
 have pL:Fits a₁ fn.ntmps ((d,mI u)::slots vs 0):=hfit.put tf;have uT:Fits a₂ fn.ntmps ((e,mI u)::(d,mI u)::slots vs 0):=pL.put Dq;have Da:wpOpsS P ops (fun x a' cs' w' =>x=.normal∧a' =a₂∧cs' ={ c with mode:=k_ u }::cs∧w' =w) [0,1] a₀ (c::cs) w:=by
  have HG:a₁.eval (.tmp d)=mI u:=pL.eval (x:=.tmp d) (by simp [aA,look]);have hcm:{ c with mode:=k_ u }=c∨True:=.inr trivial;simp only [wpOpsS,Ow,zq,Region.wanted,if_true];have Pj:∀ o:Oper,o.op=.call ⟨.builtin .recover,VU,Vu⟩→(execOp a₀.eval o).run P w=.ok .recover w:=fun o ho=>by
   simp [execOp,ho,resolve,invoke,builtin]
  rw [Pj _ rfl];subst N7
  rcases Ty c cs with ⟨q1,q2,cH⟩|q1
  ·simp only [q1]
   have DE:∀ o:Oper,o.op=.assign (.tmp d)→(execOp (a₀.put (some d) .nilIface).eval o).run P w=.ok (.value (mI c.mode)) w:=fun o ho=>by
    rw [← q2];simp [execOp,ho];exact HG
   rw [DE _ rfl];simp only [Oper.upon_value];refine ⟨trivial,?_,?_,trivial⟩
   ·simp only [a₂,a₁,q2]
   ·rw [cH]
  ·simp only [q1]
   have DE:∀ o:Oper,o.op=.assign (.tmp d)→(execOp (a₀.put (some d) (mI c.mode)).eval o).run P w=.ok (.value (mI c.mode)) w:=fun o ho=>by
    simp [execOp,ho];exact HG
   rw [DE _ rfl];simp only [Oper.upon_value];exact ⟨trivial,rfl,trivial,trivial⟩
 obtain ⟨x,a',cs',w',⟨rfl,rfl,rfl,rfl⟩,gv⟩:=wp_opsS (P:=P) (Q:=fun x a' cs' w' =>x=.normal∧a' =a₂∧cs' ={ c with mode:=k_ u }::cs∧w' =w) [0,1] a₀ (c::cs) w Da b [.code rest] rfl rfl;have hstart:Steps P (lone (Frame.enter P f vs.toArray .deferred) (c::cs) w') (lone (b.at a₂ [.code rest]) ({ c with mode:=k_ u }::cs) w'):=by
  rw [wL];have hr:List.range ops.size=[0,1]:=by rw [hsz];rfl
  exact .head step_seq (.head step_region (by rw [hr];exact gv))
 obtain ⟨x,a',w'',hq,sY⟩:=h a₂ w' uT rfl hw b ({ c with mode:=k_ u }::cs) rfl ⟨fn,hf⟩;have sY:=(arrivesIn_iff (I:=Machine.fenced P Fence.wide) (fun _ _=>stepsIn_wide) rfl).1 sY;rw [Frame.atR_of_none rfl] at sY
 cases x with
 |normal =>
  obtain ⟨e',w3,fr',hR,hs,hk,hg⟩:=DW a'.defers .returning w'' { b.at a' [] with mode:=.returning } ({ c with mode:=k_ u }::cs) rfl rfl rfl hf rfl hq;exact ⟨e',k_ u,w3,fr',⟨rfl,hR⟩,Comes.of_steps (hstart.trans (Steps.trans sY (.one step_end))) hs,hk,hg⟩
 |ret =>
  obtain ⟨todo,tn⟩:=sY;obtain ⟨e',w3,fr',hR,hs,hk,hg⟩:=DW a'.defers .returning w'' { b.at a' todo with mode:=.returning } ({ c with mode:=k_ u }::cs) rfl rfl rfl hf rfl hq;exact ⟨e',k_ u,w3,fr',⟨rfl,hR⟩,Comes.of_steps (hstart.trans tn) hs,hk,hg⟩
 |panic chain =>
  obtain ⟨todo,tn⟩:=sY;obtain ⟨e',w3,fr',hR,hs,hk,hg⟩:=DW a'.defers (.panicking chain) w'' { b.at a' todo with mode:=.panicking chain } ({ c with mode:=k_ u }::cs) rfl rfl rfl hf rfl hq;exact ⟨e',k_ u,w3,fr',⟨rfl,hR⟩,Comes.of_steps (hstart.trans tn) hs,hk,hg⟩
 |exit _=>exact hq.elim
 |goto _=>exact hq.elim
 |outgrown=>exact ⟨.outgrown,k_ u,w'',b,⟨rfl,hq⟩,Outgrown.of_steps hstart (sY.resolve_left (by simp [b])),rfl,trivial⟩
section
variable {ro:Option Nat} {P:Program} {fn:Func} {n:Nat} {R:Ending→World→Prop} {k:List Item} {σ:List (Nat × Value)} {D:List Deferred} {g:bh} {U ζ:List az}
 {ops:Array Oper} {i d:Nat} {l:List Nat} {f:FuncId} {x y:Operand} {xs:Array Operand} {ts:Array TypeId} {bG:List Value} {K:Value→List az→Prop} {t:TypeId}
theorem O.defer {first cap:Array Value} (ho:j5 ops i=some (.defer ⟨.value x,xs,ts⟩)) (hx:aA σ x=some (.func (.func f) first cap)) (hv:dQ σ xs.toList=some bG) {args:Array Value} (hargs:first++bG.toArray=args)
  (h:O none P fn n R ops l k σ (⟨.fn (.func f) cap,args⟩::D) g U):O none P fn n R ops (i::l) k σ D g U:=by
 intro a w hf hd hw
 obtain ⟨o,hi,ek,hop,hg⟩:=o7 ho;simp only [wpOpsIn,hi,Region.wanted,hg,if_true];refine ⟨fun _ _=>trivial,?_⟩;have hm:xs.map a.eval=bG.toArray:=by rw [← ql hf.j3 hv,← Array.toList_map]
 have hrun:(execOp a.eval o).run P w=.ok (.defer ⟨.fn (.func f) cap,args⟩) w:=by
  simp [execOp,hop,resolve,hf.eval hx,Deferred.ofValue,hm,hargs]
 show o.uponIn (mT none) 0 P a _ _ ((o.semAt none a.eval).run P w)
 rw [Oper.semAt_none,hrun,Oper.uponIn_defer,ek];exact h _ w ⟨hf.1,hf.2⟩ (by simp [Act.put,hd]) hw
def sw (g:bh) (b:Nat) (R:Ending→World→Prop) (e:Ending) (u:FrameMode) (w:World):Prop :=
 (∃ v,e=.returned v)∧settle u=.returning∧∃ T v U,Holds w g (obj b T [v]::U)∧R (.returned v) w
theorem u4 {a:Act} {w:World} {u:FrameMode} {aJ b:Nat} {ty:TypeId} {cap args:Array Value} (hr:fn.results=#[.cell aJ ty]) (xf:dR P ty=true) (hf:Fits a n σ) (hl:look σ aJ=some (.pointer (some ⟨b,0,none⟩)))
  (hu:u≠.run) (hc:dr P f=true) (s0:CallsD P f (args++cap) u w (sw g b R)):eG P fn a.tmps R [⟨.fn (.func f) cap,args⟩] u w:=by
 refine eG.of (leaves_cons hu (by simp [invoke,As hc]) (s0.mono ?_));rintro e u' w' ⟨⟨v,rfl⟩,hs,T,v',ax,hw,hR⟩
 show Leaves P fn a.tmps R [] (settle u') w'
 rw [hs];refine ⟨v',?_,hR⟩;have hc0:w'.cell? ⟨b,0,none⟩=some v' :=hw.tE (by rfl);have hl' :=hf.2 aJ _ hl
 simp [results,hr,Array.getD_eq_getD_getElem?,hl',asAddr,loadVar,r6 (ru xf),hc0]
theorem S.qM (h:∀ a w,Fits a n σ→a.defers=D→Holds w g U→eG P fn a.tmps R D .returning w):S none P fn n R (.code .ret::k) σ D g U:=by
 intro a w hf hd hw
 refine .ret ?_
 show eG P fn a.tmps R a.defers .returning w
 rw [hd];exact h a w hf hd hw
theorem S.EJ {aJ b:Nat} {ty T:TypeId} {v:Value} (hr:fn.results=#[.cell aJ ty]) (xf:dR P ty=true) (hl:look σ aJ=some (.pointer (some ⟨b,0,none⟩))) (hs:bf U (obj b T [v]) ζ)
  (h:∀ w,Holds w g (obj b T [v]::ζ)→R (.returned v) w):S none P fn n R (.code .ret::k) σ [] g U:=by
 refine S.qM fun a w hf hd hw=>?_;have hw' :=hw.cu hs;refine ⟨v,?_,h w hw'⟩;have hc0:w.cell? ⟨b,0,none⟩=some v:=hw'.tE (by rfl);have hl' :=hf.2 aJ _ hl
 simp [results,hr,Array.getD_eq_getD_getElem?,hl',asAddr,loadVar,r6 (ru xf),hc0]
theorem O.Gj {first cap:Array Value} {X:List PanicEntry→List az→Prop} (ho:bJ ops i n σ d (.call ⟨.value x,xs,ts⟩)) (hx:aA σ x=some (.func (.func f) first cap)) (hc:dr P f=true)
  (hv:dQ σ xs.toList=some bG) {args:Array Value} (hargs:first++bG.toArray++cap=args) (con:ay P f args g.h U (ey K X))
  (hp:∀ a ch ax w,Fits a n σ→X ch ax →Holds w g (ax ++ζ)→eG P fn a.tmps R D (.panicking ch) w)
  (h:∀ v ax,K v ax →O none P fn n R ops l k ((d,v)::σ) D g (ax ++ζ)):O none P fn n R ops (i::l) k σ D g (U++ζ):=by
 intro a w hf hd hw
 obtain ⟨o,hi,ek,hop,hg,hb⟩:=ho.spec;have hm:xs.map a.eval=bG.toArray:=by rw [← ql hf.j3 hv,← Array.toList_map]
 refine O.mi hi (hg a hf) (by rw [hop];intro c hc;cases hc) (Ar hop (hf.j3 x _ hx) hc w) ?_;rw [Oper.uponIn_enter,hm,hargs];refine BF ?_;refine (con.frame (ζ:=ζ) g (Fr.bW _) w hw).mono fun e w' hh=>?_;obtain ⟨ax,⟨cN,hq,rfl⟩,hw'⟩:=hh
 cases e with
 |returned v =>
  show wpOpsIn (mT none) 0 P ops _ l (a.put o.dst v) w'
  rw [ek];exact h v cN hq _ _ (hf.put hb) hd hw'
 |panicked ch =>
  show eG P fn a.tmps R a.defers (.panicking ch) w'
  rw [hd];exact hp a ch cN w' hf hq hw'
 |outgrown=>exact hq.elim
theorem O.qd {first cap:Array Value} {X:List PanicEntry→List az→Prop} {A:az} (ho:bJ ops i n σ d (.call ⟨.value x,xs,ts⟩)) (hx:aA σ x=some (.func (.func f) first cap)) (hc:dr P f=true)
  (hv:dQ σ xs.toList=some bG) {args:Array Value} (hargs:first++bG.toArray++cap=args) (hs:bf U A ζ) (con:ay P f args g.h [A] (ey K X))
  (hp:∀ ch ax w,X ch ax →Holds w g (ax ++ζ)→R (.panicked ch) w)
  (h:∀ v ax,K v ax →O ro P fn n R ops l k ((d,v)::σ) [] g (ax ++ζ)):O ro P fn n R ops (i::l) k σ [] g U :=
 fun a w hf hd hw=>O.Gi (U:=[A]) (ζ:=ζ) ho hx hc hv hargs con hp h a w hf hd (hw.cu hs)
theorem O.kH {first cap:Array Value} {X:List PanicEntry→List az→Prop} (ho:bJ ops i n σ d (.call ⟨.value x,xs,ts⟩)) (hx:aA σ x=some (.func (.func f) first cap)) (hc:dr P f=true)
  (hv:dQ σ xs.toList=some bG) {args:Array Value} (hargs:first++bG.toArray++cap=args) (con:ay P f args g.h [] (ey K X))
  (hp:∀ ch ax w,X ch ax →Holds w g (ax ++U)→R (.panicked ch) w)
  (h:∀ v ax,K v ax →O ro P fn n R ops l k ((d,v)::σ) [] g (ax ++U)):O ro P fn n R ops (i::l) k σ [] g U :=
 O.Gi (U:=[]) (ζ:=U) ho hx hc hv hargs con hp h
theorem O.BE {first cap:Array Value} {X:List PanicEntry→List az→Prop} {A:az} (ho:bJ ops i n σ d (.call ⟨.value x,xs,ts⟩)) (hx:aA σ x=some (.func (.func f) first cap)) (hc:dr P f=true)
  (hv:dQ σ xs.toList=some bG) {args:Array Value} (hargs:first++bG.toArray++cap=args) (hs:bf U A ζ) (con:ay P f args g.h [A] (ey K X))
  (hp:∀ a ch ax w,Fits a n σ→X ch ax →Holds w g (ax ++ζ)→eG P fn a.tmps R D (.panicking ch) w)
  (h:∀ v ax,K v ax →O none P fn n R ops l k ((d,v)::σ) D g (ax ++ζ)):O none P fn n R ops (i::l) k σ D g U :=
 fun a w hf hd hw=>O.Gj (U:=[A]) (ζ:=ζ) ho hx hc hv hargs con hp h a w hf hd (hw.cu hs)
theorem O.BD {first cap:Array Value} {X:List PanicEntry→List az→Prop} (ho:bJ ops i n σ d (.call ⟨.value x,xs,ts⟩)) (hx:aA σ x=some (.func (.func f) first cap)) (hc:dr P f=true)
  (hv:dQ σ xs.toList=some bG) {args:Array Value} (hargs:first++bG.toArray++cap=args) (con:ay P f args g.h [] (ey K X))
  (hp:∀ a ch ax w,Fits a n σ→X ch ax →Holds w g (ax ++U)→eG P fn a.tmps R D (.panicking ch) w)
  (h:∀ v ax,K v ax →O none P fn n R ops l k ((d,v)::σ) D g (ax ++U)):O none P fn n R ops (i::l) k σ D g U :=
 O.Gj (U:=[]) (ζ:=U) ho hx hc hv hargs con hp h
theorem af.qd {first cap:Array Value} {X:List PanicEntry→List az→Prop} {A:az} (ho:bJ ops i n σ d (.call ⟨.value x,xs,ts⟩)) (hd:eu ops [i] l=true) (hx:aA σ x=some (.func (.func f) first cap)) (hc:dr P f=true)
  (hv:dQ σ xs.toList=some bG) {args:Array Value} (hargs:first++bG.toArray++cap=args) (hs:bf U A ζ) (con:ay P f args g.h [A] (ey K X))
  (hp:∀ ch ax w,X ch ax →Holds w g (ax ++ζ)→R (.panicked ch) w)
  (h:∀ v ax,K v ax →af P fn n R ops k [] g l ((d,v)::σ) (ax ++ζ)):af P fn n R ops k [] g (i::l) σ U :=
 af.perm hs.perm (af.lz (U:=[A]) (ζ:=ζ) ho hd hx hc hv hargs con (fun _ ch ax w hX hW=>hp ch ax w hX hW) h)
theorem af.kH {first cap:Array Value} {X:List PanicEntry→List az→Prop} (ho:bJ ops i n σ d (.call ⟨.value x,xs,ts⟩)) (hd:eu ops [i] l=true) (hx:aA σ x=some (.func (.func f) first cap)) (hc:dr P f=true)
  (hv:dQ σ xs.toList=some bG) {args:Array Value} (hargs:first++bG.toArray++cap=args) (con:ay P f args g.h [] (ey K X))
  (hp:∀ ch ax w,X ch ax →Holds w g (ax ++U)→R (.panicked ch) w)
  (h:∀ v ax,K v ax →af P fn n R ops k [] g l ((d,v)::σ) (ax ++U)):af P fn n R ops k [] g (i::l) σ U :=
 af.lz (U:=[]) (ζ:=U) ho hd hx hc hv hargs con (fun _ ch ax w hX hW=>hp ch ax w hX hW) h
theorem TW {ms:Array (String × TypeId)} {u:TypeId} {v:Value} (ht:P.underlying t=some (.interface ms)) (w:World):(Op.equal t (.iface u v) .nilIface).run P w=.ok false w:=by
 show (Op.equalIn (9999+1) t (.iface u v) .nilIface).run P w=_
 rw [Op.equalIn];simp [run_underlying ht]
theorem TY {ms:Array (String × TypeId)} (ht:P.underlying t=some (.interface ms)) (w:World):(Op.equal t .nilIface .nilIface).run P w=.ok true w:=by
 show (Op.equalIn (9999+1) t .nilIface .nilIface).run P w=_
 rw [Op.equalIn];simp [run_underlying ht]
theorem aD.u_ {u:TypeId} {ms:Array (String × TypeId)} {v:Value} {Vv:TypeId} (ht:P.underlying t=some (.interface ms)) (hx:aA σ x=some (.iface Vv v)):aD P (.binOp .neq t x (.const .nilIface) u) σ g U (.bool true) U :=
 .run fun o ρ w ho hk=>by simp [execOp,ho,hk x _ hx,hk (.const .nilIface) _ rfl,eqGuard,Go.binOp,TW ht]
theorem aD.u9 {u:TypeId} {ms:Array (String × TypeId)} (ht:P.underlying t=some (.interface ms)) (hx:aA σ x=some .nilIface):aD P (.binOp .neq t x (.const .nilIface) u) σ g U (.bool false) U :=
 .run fun o ρ w ho hk=>by simp [execOp,ho,hk x _ hx,hk (.const .nilIface) _ rfl,eqGuard,Go.binOp,TY ht]
theorem aD.uv {ti ta:TypeId} {v:Value} {dd:TypeDesc} (ht:P.underlying ta=some dd) (hx:aA σ x=some (.iface ta v)) (hn:Ji dd=true:=by rfl):aD P (.typeAssert x ti ta true) σ g U (.tuple #[v,.bool true]) U :=
 .run fun o ρ w ho hk=>by
  simp only [execOp,ho,hk x _ hx,Instr.typeAssert,Sem.run_bind,run_underlying ht,Result.andThen_ok]
  cases dd<;>first|(simp;done)|exact Bool.noConfusion hn
end
end Go.Sp
end
end
section
/- Texts of this proof. -/
namespace Go.Sp
def b5 {β α:Type} (A:β→α→az):List β→List α→az
 |[],[]=>fun _=>True
 |b::bs,a::as=>fun h=>Sat [A b a,b5 A bs as] h
 |_,_=>fun _=>False
theorem Sat.two {A B:az} {m:Fr}:Sat [A,B] m↔∃ h1 h2:Fr,h1.cI h2∧h1.sub m∧h2.sub m∧A h1∧(∃ h3:Fr,h3.sub h2∧B h3):=by
 constructor
 ·rintro ⟨h1,h2,d,s1,s2,x,k1,k2,_,t1,_,y,_⟩
  exact ⟨h1,h2,d,s1,s2,x,k1,t1,y⟩
 ·rintro ⟨h1,h2,d,s1,s2,x,h3,t,y⟩
  exact ⟨h1,h2,d,s1,s2,x,h3,Fr.emp,Fr.eX (Fr.dW _),t,Fr.c4 _,y,trivial⟩
theorem b5.snoc {β α:Type} {A:β→α→az} {b:β} {a:α}:∀ {bs:List β} {as:List α} {m:Fr},Sat [b5 A bs as,A b a] m→∃ h:Fr,h.sub m∧b5 A (bs++[b]) (as++[a]) h
 |[],[],m,h=>⟨m,Fr.bW _,by
  have h2:Sat [A b a] m:=h.tail';exact Sat.append (U:=[A b a]) (ζ:=[b5 A [] []]) (Fr.eX (Fr.dW _)) h2 ⟨Fr.emp,Fr.emp,Fr.dW _,Fr.c4 _,Fr.c4 _,trivial,trivial⟩ |>Sat.mono (Fr.hG (Fr.bW _) (Fr.c4 _))⟩
 |[],_::_,_,h=>by obtain ⟨_,_,_,_,_,x,_⟩:=h;exact x.elim
 |_::_,[],_,h=>by obtain ⟨_,_,_,_,_,x,_⟩:=h;exact x.elim
 |b' ::bs,a' ::as,m,h=>by
  obtain ⟨h1,h2,d,s1,s2,x,y⟩:=h;have x' :Sat [A b' a',b5 A bs as] h1:=x;obtain ⟨k1,k2,kd,t1,t2,p,q⟩:=x';have hq:Sat [b5 A bs as,A b a] (k2.add h2):=Sat.append (U:=[b5 A bs as]) (ζ:=[A b a]) (Fr.fH d t2 (Fr.bW _)) q y;obtain ⟨h3,u,z⟩:=b5.snoc hq;refine ⟨m,Fr.bW _,?_⟩
  show Sat [A b' a',b5 A (bs++[b]) (as++[a])] m
  refine ⟨k1,k2.add h2,Fr.rj kd (Fr.fH d t1 (Fr.bW _)),Fr.aI t1 s1,Fr.hG (Fr.aI t2 s1) s2,p,h3,Fr.emp,Fr.eX (Fr.dW _),u,Fr.c4 _,z,trivial⟩
theorem b5.sB {β α:Type} {A:β→α→az} {R:β→α→Prop} {k:Fr} (hA:∀ b a m,A b a m→m.sub k→R b a):∀ {bs:List β} {as:List α} {m:Fr},b5 A bs as m→m.sub k→bY R bs as
 |[],[],_,_,_=>trivial
 |[],_::_,_,h,_=>h.elim
 |_::_,[],_,h,_=>h.elim
 |b::bs,a::as,m,h,s=>by
  have h' :Sat [A b a,b5 A bs as] m:=h;obtain ⟨k1,k2,_,t1,t2,p,aR,_,_,u,_,q,_⟩:=h';exact ⟨hA b a k1 p (Fr.aI t1 s),b5.sB hA q (Fr.aI u (Fr.aI t2 s))⟩
abbrev sA {α:Type} (T:ag α) (e:TypeId) (vs:List Value) (xss:List (List α)):az:=b5 (av T e) vs xss
section
variable {ro:Option Nat} {P:Program} {fn:Func} {n:Nat} {R:Ending→World→Prop} {k:List Item} {σ:List (Nat × Value)} {D:List Deferred} {g:bh} {U ζ aN:List az} {ops:Array Oper} {L:List Nat}
theorem Sat.each {β α:Type} {A:β→α→az} {b:β} {a:α} {bs:List β} {as:List α} {m:Fr} (h:Sat (b5 A bs as::A b a::aN) m):Sat (b5 A (bs++[b]) (as++[a])::aN) m:=by
 obtain ⟨h1,h2,d,s1,s2,x,k1,k2,kd,t1,t2,y,z⟩:=h;obtain ⟨h3,u,w⟩:=b5.snoc (Sat.append (U:=[b5 A bs as]) (ζ:=[A b a]) (Fr.fH d (Fr.bW _) t1) ⟨h1,Fr.emp,Fr.eX (Fr.dW _),Fr.bW _,Fr.c4 _,x,trivial⟩ ⟨k1,Fr.emp,Fr.eX (Fr.dW _),Fr.bW _,Fr.c4 _,y,trivial⟩);exact ⟨h3,k2,Fr.fH (Fr.pJ (Fr.fH d (Fr.bW _) t2) kd) u (Fr.bW _),Fr.aI u (Fr.hG s1 (Fr.aI t1 s2)),Fr.aI t2 s2,w,z⟩
theorem O.each {β α:Type} {A:β→α→az} {b:β} {a:α} {bs:List β} {as:List α} (s1:bf U (b5 A bs as) ζ) (s2:bf ζ (A b a) aN) (h:O ro P fn n R ops L k σ D g (b5 A (bs++[b]) (as++[a])::aN)):O ro P fn n R ops L k σ D g U :=
 O.cu s1 (O.imp (U:=b5 A bs as::ζ) (fun _ x=>Sat.each (Sat.fe (fun _ y=>y) (fun _ y=>Sat.perm s2.perm y) x)) h)
theorem S.imp' {todo:List Item} (hs:∀ m,Sat U m→Sat ζ m) (h:S ro P fn n R todo σ D g ζ):S ro P fn n R todo σ D g U:=fun a w hf hd hw=>h a w hf hd (hw.imp hs)
theorem S.each {todo:List Item} {β α:Type} {A:β→α→az} {b:β} {a:α} {bs:List β} {as:List α} (s1:bf U (b5 A bs as) ζ) (s2:bf ζ (A b a) aN) (h:S ro P fn n R todo σ D g (b5 A (bs++[b]) (as++[a])::aN)):S ro P fn n R todo σ D g U :=
 S.cu s1 (S.imp' (U:=b5 A bs as::ζ) (fun _ x=>Sat.each (Sat.fe (fun _ y=>y) (fun _ y=>Sat.perm s2.perm y) x)) h)
theorem Sat.rows {α:Type} {T:ag α} {e e' :TypeId} {v:Value} {vs:List Value} {xss:List (List α)} {m:Fr} (h:Sat [av ag.val e v vs,sA T e' vs xss] m):aj (ag.slice T) m v xss:=by
 obtain ⟨h1,h2,_,s1,s2,x,h3,_,_,t,_,y,_⟩:=h;exact (x.arr.mono s1).rows (b5.sB (fun b a m' z s=>z.arr.mono s) y (Fr.aI t s2))
theorem Uf {α:Type} {T:ag α} {e e' :TypeId} {v:Value} {vs:List Value} {xss:List (List α)} (s1:bf U (av ag.val e v vs) ζ) (s2:bf ζ (sA T e' vs xss) aN) (m:Fr) (h:Sat U m):Sat ((fun m=>aj (ag.slice T) m v xss)::aN) m:=by
 obtain ⟨h1,h2,d,t1,t2,x,y⟩:=Sat.perm s1.perm h;obtain ⟨k1,k2,kd,u1,u2,p,q⟩:=Sat.perm s2.perm y;refine ⟨h1.add k1,k2,Fr.pJ (Fr.fH d (Fr.bW _) u2) kd,Fr.hG t1 (Fr.aI u1 t2),Fr.aI u2 t2,?_,q⟩;exact Sat.rows (Sat.append (U:=[av ag.val e v vs]) (ζ:=[sA T e' vs xss]) (Fr.fH d (Fr.bW _) u1) ⟨h1,Fr.emp,Fr.eX (Fr.dW _),Fr.bW _,Fr.c4 _,x,trivial⟩ ⟨k1,Fr.emp,Fr.eX (Fr.dW _),Fr.bW _,Fr.c4 _,p,trivial⟩)
theorem S.vn {aJ b:Nat} {ty T:TypeId} {cs:List Value} (hr:fn.results=#[.cell aJ ty]) (xf:∀ w,(isAgg ty).run P w=.ok true w) (hsz:(P.info? ty).map (·.size)=some cs.length) (hl:look σ aJ=some (.pointer (some ⟨b,0,none⟩))) (hs:bf U (obj b T cs) ζ)
  (h:∀ w,Holds w g (obj b T cs::ζ)→R (.returned (.agg cs.toArray)) w):S none P fn n R (.code .ret::k) σ [] g U:=by
 refine S.qM fun a w hf hd hw=>?_;have hw' :=hw.cu hs;refine ⟨.agg cs.toArray,?_,h w hw'⟩;have hc0:=run_loadCells_list (P:=P) w ⟨b,0,none⟩ cs fun j v hj=>by
  rw [add_lit];exact hw'.tE (by simpa using hj)
 have hl' :=hf.2 aJ _ hl
 simp [results,hr,Array.getD_eq_getD_getElem?,hl',asAddr,loadVar,xf,run_sizeOf hsz,hc0]
theorem O.Nf {α:Type} {T:ag α} {e e' :TypeId} {v:Value} {vs:List Value} {xss:List (List α)} (s1:bf U (av ag.val e v vs) ζ) (s2:bf ζ (sA T e' vs xss) aN) (h:∀ g' :bh,g.h.sub g'.h→(∀ w ζ,Holds w g' ζ→Holds w g ζ)→aj (ag.slice T) g'.h v xss→O ro P fn n R ops L k σ D g' aN):O ro P fn n R ops L k σ D g U :=
 O.imp (Uf s1 s2) (O.Ng bf.here h)
end
section
variable {ro:Option Nat} {P:Program} {σ:List (Nat × Value)} {g:bh} {U ζ:List az} {fn:Func} {n:Nat} {R:Ending→World→Prop} {k:List Item} {D:List Deferred} {ops:Array Oper} {i d:Nat} {l:List Nat}
 {t e:TypeId} {x y z:Operand} {v:Value} {ka kb:IntKind} {p9 nG:Int} {a b:Nat} {α:Type} {T:ag α} {xs:List α} {r:Fr}
theorem ay.tv {f:FuncId} {args:Array Value} {h:Fr} {bs:List az} {Post:Ending→List az→Prop} (con:∀ m:Fr,Sat bs m→h.cI m→ay P f args (h.add m) U Post) :
  ay P f args h (U++bs) Post:=fun g hg w hw=>by
 obtain ⟨m,hm,hd,hw'⟩:=Holds.y3 (U:=U) (ζ:=bs) hw;have lJ :h.cI m:=Fr.fH hd hg (Fr.bW _);exact (con m hm lJ (g.add m) (Fr.hG (Fr.aI hg (Fr.cw _ _)) (Fr.dA hd)) w hw').mono fun e w' ⟨ax,x,y⟩=>⟨ax,x,y.iR hd⟩
theorem O.eL {f:FuncId} {xs:Array Operand} {ts:Array TypeId} {bG:List Value} {K' :Value→List az→Prop} {first cap:Array Value} (ho:bJ ops i n σ d (.call ⟨.value x,xs,ts⟩)) (hx:aA σ x=some (.func (.func f) first cap)) (hc:dr P f=true)
  (hv:dQ σ xs.toList=some bG) {args:Array Value} (hargs:first++bG.toArray++cap=args) {bs:List az} (hb:jw U bs ζ) (con:ay P f args g.h bs (aM K'))
  (h:∀ v ax,K' v ax →O ro P fn n R ops l k ((d,v)::σ) D g (ax ++ζ)):O ro P fn n R ops (i::l) k σ D g U :=
 fun a w hf hd hw=>O.call (ζ:=ζ) ho hx hc hv hargs con h a w hf hd (hw.perm hb.perm)
theorem cL.eL {f:FuncId} {xs:Array Operand} {ts:Array TypeId} {bG:List Value} {K' :Value→List az→Prop} {first cap:Array Value} (ho:bJ ops i n σ d (.call ⟨.value x,xs,ts⟩)) {fl:Bool} (hd:d_ fl ops i l=true) (hx:aA σ x=some (.func (.func f) first cap)) (hc:dr P f=true)
  (hv:dQ σ xs.toList=some bG) {args:Array Value} (hargs:first++bG.toArray++cap=args) {bs:List az} (hb:jw U bs ζ) (con:ay P f args g.h bs (aM K'))
  (h:∀ v ax,K' v ax →af P fn n R ops k D g l ((d,v)::σ) (ax ++ζ)):aK P fn n R ops k D g fl (i::l) σ U :=
 aK.perm hb.perm (cL.call (ζ:=ζ) ho hd hx hc hv hargs con h)
theorem af.eL {f:FuncId} {xs:Array Operand} {ts:Array TypeId} {bG:List Value} {K' :Value→List az→Prop} {first cap:Array Value} (ho:bJ ops i n σ d (.call ⟨.value x,xs,ts⟩)) (hd:eu ops [i] l=true) (hx:aA σ x=some (.func (.func f) first cap)) (hc:dr P f=true) (hv:dQ σ xs.toList=some bG) {args:Array Value} (hargs:first++bG.toArray++cap=args) {bs:List az} (hb:jw U bs ζ) (con:ay P f args g.h bs (aM K')) (h:∀ v ax,K' v ax →af P fn n R ops k D g l ((d,v)::σ) (ax ++ζ)):af P fn n R ops k D g (i::l) σ U:=cL.eL (fl:=false) ho (by simpa [d_] using hd) hx hc hv hargs hb con h
theorem bO.eL {f:FuncId} {xs:Array Operand} {ts:Array TypeId} {bG:List Value} {K' :Value→List az→Prop} {first cap:Array Value} (ho:bJ ops i n σ d (.call ⟨.value x,xs,ts⟩)) (_:true=true) (hx:aA σ x=some (.func (.func f) first cap)) (hc:dr P f=true) (hv:dQ σ xs.toList=some bG) {args:Array Value} (hargs:first++bG.toArray++cap=args) {bs:List az} (hb:jw U bs ζ) (con:ay P f args g.h bs (aM K')) (h:∀ v ax,K' v ax →af P fn n R ops k D g l ((d,v)::σ) (ax ++ζ)):aK P fn n R ops k D g true (i::l) σ U:=cL.eL (fl:=true) ho rfl hx hc hv hargs hb con h
theorem af.sliceTo (ho:bJ ops i n σ d (.slice t x none (some y) none)) (ht:P.underlying t=some (.slice e)) (he:(P.info? e).map (·.size)=some T.k) (hx:aA σ x=some v) (hy:aA σ y=some (.int kb nG)) (hs:aj T r v xs) (hz:nG=(b:Int)) (hb:b≤xs.length)
  (h:∀ u,aj T r u (xs.take b)→af P fn n R ops k D g l ((d,u)::σ) U):af P fn n R ops k D g (i::l) σ U:=by
 subst hz;obtain ⟨u,h1,h2⟩:=x5 (g:=g) (a:=0) (b:=b) (kl:=.i64) ht he hx (lo:=none) (hi:=some y) (fun _ h=>nomatch h) (fun _=>rfl) (fun _ h=>by cases h;exact hy) (fun h=>nomatch h) hs (Nat.zero_le _) hb;exact .quiet ho rfl h1 (h u h2)
theorem af.sliceFrom (ho:bJ ops i n σ d (.slice t x (some y) none none)) (ht:P.underlying t=some (.slice e)) (he:(P.info? e).map (·.size)=some T.k) (hx:aA σ x=some v) (hy:aA σ y=some (.int ka p9)) (hs:aj T r v xs) (hz:p9=(a:Int)) (ha:a≤xs.length)
  (h:∀ u,aj T r u (xs.drop a)→af P fn n R ops k D g l ((d,u)::σ) U):af P fn n R ops k D g (i::l) σ U:=by
 subst hz;obtain ⟨u,h1,h2⟩:=x5 (g:=g) (a:=a) (b:=xs.length) (kh:=.i64) ht he hx (lo:=some y) (hi:=none) (fun _ h=>by cases h;exact hy) (fun h=>nomatch h) (fun _ h=>nomatch h) (fun _=>rfl) hs ha (Nat.le_refl _);exact .quiet ho rfl h1 (h u (by rw [List.take_length] at h2;exact h2))
theorem cL.cZ {t T:TypeId} {x y:Operand} {b i:Nat} {cs news:List Value} {v:Value} {j:Nat} (ho:j5 ops j=some (.store t x y)) {fl:Bool} (hd:d_ fl ops j l=true) (hsz:(P.info? t).map (·.size)=some news.length) (hx:aA σ x=some (.pointer (some ⟨b,i,none⟩))) (hy:aA σ y=some v)
  (hv:v.cells.toList=news) (h1:news.all (·.oneCell')=true) (hs:bf U (obj b T cs) ζ) (hl:i+news.length≤cs.length)
  (h:af P fn n R ops k D g l σ (obj b T (cs.take i++news++cs.drop (i+news.length))::ζ)):aK P fn n R ops k D g fl (j::l) σ U :=
 aK.perm hs.perm (cL.mE (U:=obj b T cs::ζ) (ax :=obj b T (cs.take i++news++cs.drop (i+news.length))::ζ) ho rfl hd (fun _=>.cZ hsz hx hy hv h1 bf.here hl) h)
theorem af.cZ {t T:TypeId} {x y:Operand} {b i:Nat} {cs news:List Value} {v:Value} {j:Nat} (ho:j5 ops j=some (.store t x y)) (hd:eu ops [j] l=true) (hsz:(P.info? t).map (·.size)=some news.length) (hx:aA σ x=some (.pointer (some ⟨b,i,none⟩))) (hy:aA σ y=some v) (hv:v.cells.toList=news) (h1:news.all (·.oneCell')=true) (hs:bf U (obj b T cs) ζ) (hl:i+news.length≤cs.length) (h:af P fn n R ops k D g l σ (obj b T (cs.take i++news++cs.drop (i+news.length))::ζ)):af P fn n R ops k D g (j::l) σ U:=cL.cZ (fl:=false) ho (by simpa [d_] using hd) hsz hx hy hv h1 hs hl h
theorem cL.bk {t T:TypeId} {x y:Operand} {b i:Nat} {cs:List Value} {v:Value} {j:Nat} (ho:j5 ops j=some (.store t x y)) {fl:Bool} (hd:d_ fl ops j l=true) (ht:dR P t=true) (hx:aA σ x=some (.pointer (some ⟨b,i,none⟩))) (hy:aA σ y=some v)
  (h1:v.oneCell' =true) (hs:bf U (obj b T cs) ζ) (hl:i<cs.length)
  (h:af P fn n R ops k D g l σ (obj b T (cs.set i v)::ζ)):aK P fn n R ops k D g fl (j::l) σ U :=
 aK.perm hs.perm (cL.mE (U:=obj b T cs::ζ) (ax :=obj b T (cs.set i v)::ζ) ho rfl hd (fun _=>.bk ht hx hy h1 bf.here hl) h)
theorem af.bk {t T:TypeId} {x y:Operand} {b i:Nat} {cs:List Value} {v:Value} {j:Nat} (ho:j5 ops j=some (.store t x y)) (hd:eu ops [j] l=true) (ht:dR P t=true) (hx:aA σ x=some (.pointer (some ⟨b,i,none⟩))) (hy:aA σ y=some v) (h1:v.oneCell' =true) (hs:bf U (obj b T cs) ζ) (hl:i<cs.length) (h:af P fn n R ops k D g l σ (obj b T (cs.set i v)::ζ)):af P fn n R ops k D g (j::l) σ U:=cL.bk (fl:=false) ho (by simpa [d_] using hd) ht hx hy h1 hs hl h
end
end Go.Sp
end
