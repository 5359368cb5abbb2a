/- Texts of this proof, one behind the other. -/
import Derived.Test.YtojafegjlahajaaGreatDoorQSpOpen
import Derived.Laws.Strings2
import Derived.Laws.IdiomRangeMap
import Derived.Laws.Externs
import Derived.KernelRfl
set_option linter.unusedSectionVars false
section
/- Texts of this proof, one behind the other. -/
section
/- Texts of this proof, one behind the other. -/
section
/- Texts of this proof. -/
namespace Go.Sp
structure bS (α:Type) where
 iF:ag α
 own:List Value→α→az
 rel:∀ {cs:List Value} {a:α} {m:Fr},own cs a m→iF.rel m cs a
theorem b5.E4 {α β:Type} {R:β→α→Prop}:∀ {bs:List β} {as:List α},b5 R bs as→bs.length=as.length
 |[],[],_=>rfl
 |[],_::_,h=>h.elim
 |_::_,[],h=>h.elim
 |_::_,_::_,h=>congrArg Nat.succ (b5.E4 h.2)
theorem wC {k:Nat} {h:Fr}:∀ {cs:List (List Value)} {ds:List (List Value)},b5 ((ag.cells k).rel h) cs ds→cs=ds
 |[],[],_=>rfl
 |[],_::_,h=>h.elim
 |_::_,[],h=>h.elim
 |_::_,_::_,h=>by rw [h.1.1,wC h.2]
theorem aj.kL {α:Type} {T:ag α} {k:Nat} {h:Fr} {v:Value} {ak:List (List Value)} {xs:List α} (h1:aj (ag.cells k) h v ak) (h2:b5 (T.rel h) ak xs) (hk:k=T.k):aj T h v xs:=by
 obtain ⟨ds,p,q⟩:=h1;obtain rfl:=wC p;subst hk;exact ⟨ds,h2,by rw [← h2.E4];exact q⟩
def cD {α:Type} (G:bS α) (e:TypeId) (v:Value) (xs:List α):az:=fun m=>∃ ak,Sat [av (ag.cells G.iF.k) e v ak,bX G.own ak xs] m
theorem cD.arr {α:Type} {G:bS α} {e:TypeId} {v:Value} {xs:List α} {m:Fr}:cD G e v xs m→aj G.iF m v xs:=by
 rintro ⟨ak,h1,h2,_,s1,s2,⟨ds,p,q⟩,h3,_,_,t,_,y,_⟩;have hd:=wC p;have hy:=bX.sZ (R:=fun cs a=>G.iF.rel m cs a) (k:=m) (fun b a m' z s=>G.iF.mono s (G.rel z)) y (Fr.aI t s2);refine ⟨ak,hy,?_⟩;rw [← hy.E4];subst hd;exact (q.sl).mono s1
def bS.pure {α:Type} (T:ag α):bS α:={ iF:=T,own:=fun cs a _=>T.rel Fr.emp cs a,rel:=fun h=>T.mono (Fr.c6 _) h }
def bS.row {α:Type} (T:ag α) (e:TypeId):bS (List α):={ iF:=ag.slice T,own:=fun cs xs m=>∃ v,cs=[v]∧av T e v xs m,rel:=fun ⟨v,h,x⟩=>⟨v,h,x.arr⟩ }
def bS.list {α:Type} (G:bS α) (e:TypeId):bS (List α):={ iF:=ag.slice G.iF,own:=fun cs xs m=>∃ v,cs=[v]∧cD G e v xs m,rel:=fun ⟨v,h,x⟩=>⟨v,h,x.arr⟩ }
def bS.prod {α β:Type} (A:bS α) (B:bS β):bS (α × β) :=
 {iF:=ag.prod A.iF B.iF,own:=fun cs x m=>∃ c d,cs=c++d∧Sat [A.own c x.1,B.own d x.2] m
  rel:=fun ⟨c,d,h,z⟩=>by
   obtain ⟨h1,h2,_,s1,s2,p,q⟩:=Sat.two.1 z;obtain ⟨h3,t,u⟩:=q;exact ⟨c,d,h,A.iF.mono s1 (A.rel p),B.iF.mono (Fr.aI t s2) (B.rel u)⟩ }
def bS.unit:bS Unit:={ iF:=ag.unit,own:=fun cs _ _=>cs=[],rel:=fun h=>h }
theorem bS.UB {α β:Type} {T:ag α} {B:bS β} {c d:List Value} {x:α} {y:β} {m:Fr} (h:T.rel Fr.emp c x) (h2:B.own d y m):(bS.prod (bS.pure T) B).own (c++d) (x,y) m :=
 ⟨c,d,rfl,Fr.emp,m,Fr.ea _,Fr.c6 _,Fr.bY _,h,m,Fr.emp,Fr.e5 (Fr.ea _),Fr.bY _,Fr.c6 _,h2,trivial⟩
section
variable {ro:Option Nat} {P:Program} {fn:Func} {n:Nat} {R:Ending→World→Prop} {k:List Item} {σ:List (Nat × Value)} {D:List Deferred} {g:bn} {U ζ aO:List az} {ops:Array Oper} {L:List Nat} {todo:List Item}
 {α:Type} {G:bS α} {e:TypeId} {v:Value} {xs:List α}
theorem WE {m:Fr} (h:Sat U m):Sat (cD G e (.slice none 0 0) []::U) m:=by
 refine ⟨Fr.emp,m,Fr.ea _,Fr.c6 _,Fr.bY _,⟨[],Fr.emp,Fr.emp,Fr.ea _,Fr.c6 _,Fr.c6 _,?_,Fr.emp,Fr.emp,Fr.ea _,Fr.c6 _,Fr.c6 _,trivial,trivial⟩,h⟩;exact AL _
theorem S.q6 (G:bS α) (e:TypeId) (h:S ro P fn n R todo σ D g (cD G e (.slice none 0 0) []::U)):S ro P fn n R todo σ D g U:=S.imp' (fun _=>WE) h
theorem S.ug {k' :Nat} (hk:G.iF.k=k') (s:bg U (cD G e v xs) ζ) (h:∀ ak,ak.length=xs.length→S ro P fn n R todo σ D g (av (ag.cells k') e v ak::bX G.own ak xs::ζ)):S ro P fn n R todo σ D g U:=by
 subst hk;exact S.cB s (S.th (A:=fun ak m=>Sat [av (ag.cells G.iF.k) e v ak,bX G.own ak xs] m) fun ak =>
  S.wU (fun _ x=>x) (S.lV (B:=bX G.own ak xs) (.there .here) (p:=ak.length=xs.length) (fun _ x=>x.len) fun hl=>h ak hl))
theorem WD {k' :Nat} (hk:G.iF.k=k') {ak:List (List Value)} (s1:bg U (av (ag.cells k') e v ak) ζ) (s2:bg ζ (bX G.own ak xs) aO) {m:Fr} (h:Sat U m):Sat (cD G e v xs::aO) m:=by
 subst hk;exact Sat.EX (A:=av (ag.cells G.iF.k) e v ak) (B:=bX G.own ak xs) (fun _ x=>⟨ak,x⟩) (Sat.fk (fun _ y=>y) (fun _ y=>Sat.perm s2.perm y) (Sat.perm s1.perm h))
theorem S.Tz {k' :Nat} (hk:G.iF.k=k') {ak:List (List Value)} (s1:bg U (av (ag.cells k') e v ak) ζ) (s2:bg ζ (bX G.own ak xs) aO) (h:S ro P fn n R todo σ D g (cD G e v xs::aO)):S ro P fn n R todo σ D g U :=
 S.imp' (fun _=>WD hk s1 s2) h
theorem S.x5 {k' :Nat} (hk:G.iF.k=k') {ak:List (List Value)} {cs:List Value} {a:α} {cW kj:List az} (s1:bg U (av (ag.cells k') e v (ak++[cs])) ζ) (s2:bg ζ (bX G.own ak xs) cW) (s3:bg cW (G.own cs a) kj) (h:S ro P fn n R todo σ D g (cD G e v (xs++[a])::kj)):S ro P fn n R todo σ D g U :=
 S.cB s1 (S.each (.there s2) (.there s3) (S.Tz hk (.there .here) .here h))
theorem S.Ij {T:ag α} (hT:G.iF=T) (s:bg U (cD G e v xs) ζ) (h:∀ g' :bn,g.h.sub g'.h→(∀ w ζ,Holds w g' ζ→Holds w g ζ)→aj T g'.h v xs→S ro P fn n R todo σ D g' ζ):S ro P fn n R todo σ D g U :=
 S.ep s fun g' h1 h2 ⟨_,h3,h4⟩=>h g' h1 h2 (hT ▸ h3.arr.mono h4)
end
theorem af.cC {P:Program} {fn:Func} {n:Nat} {R:Ending→World→Prop} {k:List Item} {σ:List (Nat × Value)} {D:List Deferred} {g:bn} {U:List az} {ops:Array Oper} {l:List Nat} {i d:Nat} {t:TypeId} {x:Operand} {v:Value}
  (ho:bJ ops i n σ d (.load t x)) (hd:eH ops [i] l=true) (dw:∀ ζ,aG P (.load t x) σ g (U++ζ) v (U++ζ)) (h:af P fn n R ops k D g l ((d,v)::σ) U):af P fn n R ops k D g (i::l) σ U :=
 .f_ (K:=fun v' ax =>v' =v∧ax =U) ho rfl hd (fun ζ o ρ w h1 h2 h3=>let ⟨w',a,b⟩:=dw ζ o ρ w h1 h2 h3;⟨v,w',U++ζ,⟨U,⟨rfl,rfl⟩,rfl⟩,a,b⟩) (by rintro _ _ ⟨rfl,rfl⟩;exact h)
theorem ay.post {P:Program} {f:FuncId} {args:Array Value} {r:Fr} {U:List az} {Post Post' :Ending→List az→Prop} (h:ay P f args r U Post) (hp:∀ e ax,Post e ax →∀ w g,Holds w g ax →∃ BD,Post' e BD ∧Holds w g BD):ay P f args r U Post' :=
 fun g hr w hw=>(h g hr w hw).mono fun e w' ⟨ax,x,y⟩=>hp e ax x w' g y
theorem aL.imp {K K' :Value→List az→Prop} (h:∀ v U,K v U→K' v U):∀ e U,aL K e U→aL K' e U
 |.returned v,U,x=>h v U x
 |.panicked _,_,x=>x.elim
 |.outgrown,_,x=>x.elim
theorem Sat.unpack {ws ζ:List az} {A:az} (hA:∀ m,A m→Sat ws m) {m:Fr} (h:Sat (A::ζ) m):Sat (ws++ζ) m:=by
 obtain ⟨_,_,d,s1,s2,x,y⟩:=h;exact Sat.mono (Fr.ia s1 s2) (Sat.append d (hA _ x) y)
theorem Holds.th {w:World} {g:bn} {ζ:List az} {α:Type} {A:α→az} (h:Holds w g ((fun m=>∃ x,A x m)::ζ)):∃ x,Holds w g (A x::ζ):=by
 obtain ⟨p,q,rr,k,d,s1,s2,k1,k2,kd,t1,t2,⟨x,hx⟩,y⟩:=h;exact ⟨x,p,q,rr,k,d,s1,s2,k1,k2,kd,t1,t2,hx,y⟩
end Go.Sp
end
section
/- Texts of this proof, one behind the other. -/
section
/- Texts of this proof. -/
namespace Go.Sp
section
variable {ro:Option Nat} {P:Program} {fn:Func} {n:Nat} {R:Ending→World→Prop} {k:List Item} {σ:List (Nat × Value)} {D:List Deferred} {g:bn} {U:List az} {ops:Array Oper} {i d:Nat} {l:List Nat} {t:TypeId} {x:Operand}
theorem Xi (xs:List UInt8) (a b:Nat):(str xs).extract a b=str ((xs.take b).drop a):=by
 have:=ByteArray.extract_mk xs a b;unfold str;rw [this,List.drop_take]
theorem F4 {xs:List UInt8} {lo hi:Option Operand} {a b:Nat} {kl kh:IntKind} (ht:P.underlying t=some .string) (hx:aA σ x=some (.string (str xs)))
  (hlo:∀ y,lo=some y→aA σ y=some (.int kl (a:Int))) (zY :lo=none→a=0) (hhi:∀ y,hi=some y→aA σ y=some (.int kh (b:Int))) (xu :hi=none→b=xs.length)
  (hab:a≤b) (hb:b≤xs.length):∀ U,aG P (.slice t x lo hi none) σ g U (.string (str ((xs.take b).drop a))) U:=fun U=>.run fun o ρ w ho hk=>by
 have hsz:=sI xs;have e1:(a:Int)≤(b:Int):=by omega
 have hex:=Xi xs a b
 cases lo with
 |none =>
  have:=zY rfl;subst this
  cases hi with
  |none=>have:=xu rfl;subst this;simp [execOp,ho,hk x _ hx,Instr.sliceAt,run_underlying ht,Instr.slice,Instr.sliceBounds,hsz,hex]
  |some y =>
   simp [execOp,ho,hk x _ hx,hk y _ (hhi y rfl),Instr.sliceAt,run_underlying ht,Instr.slice,Instr.sliceBounds,Instr.sliceBound,asIntOf,hsz,hb,hex]
 |some z =>
  cases hi with
  |none=>have:=xu rfl;subst this;simp [execOp,ho,hk x _ hx,hk z _ (hlo z rfl),Instr.sliceAt,run_underlying ht,Instr.slice,Instr.sliceBounds,Instr.sliceBound,asIntOf,hsz,hab,hex]
  |some y =>
   simp [execOp,ho,hk x _ hx,hk z _ (hlo z rfl),hk y _ (hhi y rfl),Instr.sliceAt,run_underlying ht,Instr.slice,Instr.sliceBounds,Instr.sliceBound,asIntOf,hsz,hab,hb,hex]
theorem O.uC {xs:List UInt8} {kb:IntKind} {lM:Int} {b:Nat} {y:Operand} (ho:bJ ops i n σ d (.slice t x none (some y) none)) (ht:P.underlying t=some .string) (hx:aA σ x=some (.string (str xs))) (hy:aA σ y=some (.int kb lM)) (hz:lM=(b:Int)) (hb:b≤xs.length)
  (h:O ro P fn n R ops l k ((d,.string (str (xs.take b)))::σ) D g U):O ro P fn n R ops (i::l) k σ D g U:=by
 subst hz;have:=F4 (P:=P) (σ:=σ) (g:=g) (kl:=.i64) (kh:=kb) (a:=0) (b:=b) ht hx (lo:=none) (hi:=some y) (fun _ h=>nomatch h) (fun _=>rfl) (fun _ h=>by cases h;exact hy) (fun h=>nomatch h) (Nat.zero_le _) hb U;exact O.op ho this h
theorem O.Xg {xs:List UInt8} {ka:IntKind} {qu:Int} {a:Nat} {y:Operand} (ho:bJ ops i n σ d (.slice t x (some y) none none)) (ht:P.underlying t=some .string) (hx:aA σ x=some (.string (str xs))) (hy:aA σ y=some (.int ka qu)) (hz:qu=(a:Int)) (ha:a≤xs.length)
  (h:O ro P fn n R ops l k ((d,.string (str (xs.drop a)))::σ) D g U):O ro P fn n R ops (i::l) k σ D g U:=by
 subst hz;have:=F4 (P:=P) (σ:=σ) (g:=g) (kl:=ka) (kh:=.i64) (a:=a) (b:=xs.length) ht hx (lo:=some y) (hi:=none) (fun _ h=>by cases h;exact hy) (fun h=>nomatch h) (fun _ h=>nomatch h) (fun _=>rfl) ha (Nat.le_refl _) U;rw [List.take_length] at this;exact O.op ho this h
end
end Go.Sp
end
section
/- Texts of this proof, one behind the other. -/
section
/- Texts of this proof. -/
namespace Go.Sp
section marks
variable {α:Type} (f:Int→Int→α)
def E_ (k n:Nat):List α:=(List.range n).map fun (i:Nat)=>f (k:Int) (i:Int)
@[simp] theorem aaL (k n:Nat):(E_ f k n).length=n:=by simp [E_]
def J9 (k n i:Nat):List α:=(List.range i).map fun (q:Nat)=>f (k:Int) ((n:Int)+(q:Int))
@[simp] theorem aaN (k n i:Nat):(J9 f k n i).length=i:=by simp [J9]
def J8 (j n i:Nat):List α:=(List.range i).map fun (q:Nat)=>f ((j:Int)+(n:Int)) (q:Int)
@[simp] theorem aaM (j n i:Nat):(J8 f j n i).length=i:=by simp [J8]
def J6 (ns:List Nat) (k:Nat):List (List α):=(List.range k).map fun j=>E_ f j (ns[j]?.getD 0)
@[simp] theorem aaK (ns:List Nat) (k:Nat):(J6 f ns k).length=k:=by simp [J6]
end marks
section
variable {ro:Option Nat} {P:Program} {fn:Func} {n:Nat} {R:Ending→World→Prop} {todo:List Item} {σ:List (Nat × Value)} {D:List Deferred} {g:bn} {U ζ aO ab8:List az} {α:Type} {T:ag α} {K:Nat} {e:TypeId} {v u:Value} {xs ys:List α}
end
theorem bX.mono {β α:Type} {A:β→α→az} {m k:Fr} (s:m.sub k):∀ {bs:List β} {as:List α},bX A bs as m→bX A bs as k
 |[],[],_=>trivial
 |[],_::_,h=>h.elim
 |_::_,[],h=>h.elim
 |_::_,_::_,h=>Sat.mono s h
theorem bX.app {β α:Type} {A:β→α→az}:∀ {bs:List β} {as:List α} {bs' :List β} {as' :List α} {m:Fr},Sat [bX A bs as,bX A bs' as'] m→bX A (bs++bs') (as++as') m
 |[],[],bs',as',m,h=>by
  obtain ⟨_,_,_,_,s2,_,h3,_,_,t,_,y,_⟩:=h;exact bX.mono (Fr.aI t s2) y
 |[],_::_,_,_,_,h=>by obtain ⟨_,_,_,_,_,x,_⟩:=h;exact x.elim
 |_::_,[],_,_,_,h=>by obtain ⟨_,_,_,_,_,x,_⟩:=h;exact x.elim
 |b::bs,a::as,bs',as',m,h=>by
  obtain ⟨h1,h2,d,s1,s2,x,y⟩:=h;have x' :Sat [A b a,bX A bs as] h1:=x;obtain ⟨k1,k2,kd,t1,t2,p,bk,sg,aat,u1,u2,q,_⟩:=x'
  show Sat [A b a,bX A (bs++bs') (as++as')] m
  have d1:bk.cU h2:=Fr.fK d (Fr.aI u1 t2) (Fr.bY _);refine ⟨k1,bk.add h2,Fr.rK (Fr.fK kd (Fr.bY _) u1) (Fr.fK d t1 (Fr.bY _)),Fr.aI t1 s1,Fr.ia (Fr.aI (Fr.aI u1 t2) s1) s2,p,bk.add h2,Fr.emp,Fr.e5 (Fr.ea _),Fr.bY _,Fr.c6 _,?_,trivial⟩;exact bX.app ⟨bk,h2,d1,Fr.dh _ _,Fr.dB d1,q,y⟩
end Go.Sp
end
section
/- Texts of this proof. -/
namespace Go.Sp
theorem ag.rel.mono {α:Type} {T:ag α} {h k:Fr} {cs:List Value} {x:α} (r:T.rel h cs x) (s:h.sub k):T.rel k cs x:=T.mono s r
def J_ {α:Type} (f:Int→α) (n:Nat):List α:=(List.range n).map fun (i:Nat)=>f (i:Int)
@[simp] theorem aaO {α:Type} (f:Int→α) (n:Nat):(J_ f n).length=n:=by simp [J_]
theorem bS.x9 {α β:Type} {T:ag α} {B:bS β} {c d:List Value} {x:α} {y:β} {W:List az} (h:T.rel Fr.emp c x) (hB:∀ m,Sat W m→B.own d y m):∀ m,Sat W m→(bS.prod (bS.pure T) B).own (c++d) (x,y) m:=fun m s=>bS.UB h (hB m s)
theorem bS.AB {α β:Type} {A:bS α} {B:bS β} {c d:List Value} {x:α} {y:β} {w:az} {W:List az} (hA:∀ m,w m→A.own c x m) (hB:∀ m,Sat W m→B.own d y m):∀ m,Sat (w::W) m→(bS.prod A B).own (c++d) (x,y) m :=
 fun _ ⟨k1,k2,dj,s1,s2,o,st⟩=>⟨c,d,rfl,k1,k2,dj,s1,s2,hA _ o,k2,Fr.emp,Fr.e5 (Fr.ea _),Fr.bY _,Fr.c6 _,hB _ st,trivial⟩
end Go.Sp
end
end
end
end
section
/- Texts of this proof, one behind the other. -/
section
/- Texts of this proof. -/
set_option linter.unusedVariables false
namespace Go.Sp
structure rD where
 u8:TypeId
 int:TypeId
 bytes:TypeId
 dot:TypeId
 A3:TypeId
 leaf:TypeId
 stub:TypeId
 node:TypeId
 prf:TypeId
 root:TypeId
 Zm:TypeId
 Zo:TypeId
 held:TypeId
def byteOf (z:Int):UInt8:=UInt8.ofNat (z % 256).toNat
theorem L7 (z:Int):Value.int .u8 (IntKind.u8.wrap z)=bK (byteOf z):=by
 rw [bK,L8];have:((byteOf z).toNat:Int)=z % 256:=by simp [byteOf];omega
 rw [this]
def TM (k i:Int):List UInt8:=[35,byteOf k,byteOf (k.fdiv (2 ^ min (8:Int).toNat IntKind.i64.bits)),byteOf (k.fdiv (2 ^ min (16:Int).toNat IntKind.i64.bits)),47,byteOf i,byteOf (i.fdiv (2 ^ min (8:Int).toNat IntKind.i64.bits)),byteOf (i.fdiv (2 ^ min (16:Int).toNat IntKind.i64.bits))]
@[simp] theorem aaJ (k i:Int):(TM k i).length=8:=rfl
abbrev dz:Type:=Int × Int × Unit
abbrev c_:ag dz:=ag.prod ag.i64 (ag.prod ag.i64 (ag.unit))
theorem c_.open {h:Fr} {cs:List Value} {x:dz} (r:c_.rel h cs x):cs=[.int .i64 x.1,.int .i64 x.2.1]∧cK x.1∧cK x.2.1:=by
 obtain ⟨c0,d0,rfl,jA,r⟩:=r;obtain ⟨c1,d1,rfl,r1,r⟩:=r;obtain rfl:d1=[]:=r;obtain ⟨rfl,h0⟩:=jA;obtain ⟨rfl,h1⟩:=r1;exact ⟨rfl,h0,h1⟩
theorem c_.mk {h:Fr} {x0:Int} {x1:Int} (h0:cK x0) (h1:cK x1):c_.rel h [.int .i64 x0,.int .i64 x1] (x0,x1,()) :=
 ⟨[.int .i64 x0],[.int .i64 x1],rfl,⟨rfl,h0⟩,⟨[.int .i64 x1],[],rfl,⟨rfl,h1⟩,rfl⟩⟩
theorem UY:c_.Pure:=fun _ _ _ h=>h
abbrev aP:Type:=(List UInt8) × Int × Int × (List dz) × Bool × (List UInt8) × (List UInt8) × Unit
abbrev cv:ag aP:=ag.prod ag.str (ag.prod ag.i64 (ag.prod ag.i64 (ag.prod (ag.slice c_) (ag.prod ag.bool (ag.prod (ag.slice ag.u8) (ag.prod (ag.slice ag.u8) (ag.unit)))))))
theorem cv.open {h:Fr} {cs:List Value} {x:aP} (r:cv.rel h cs x):∃ v3 v5 v6,cs=[.string (str x.1),.int .i64 x.2.1,.int .i64 x.2.2.1,v3,.bool x.2.2.2.2.1,v5,v6]∧x.1.length≤9223372036854775807∧cK x.2.1∧cK x.2.2.1∧aj c_ h v3 x.2.2.2.1∧aj ag.u8 h v5 x.2.2.2.2.2.1∧aj ag.u8 h v6 x.2.2.2.2.2.2.1:=by
 obtain ⟨c0,d0,rfl,jA,r⟩:=r;obtain ⟨c1,d1,rfl,r1,r⟩:=r;obtain ⟨c2,d2,rfl,r2,r⟩:=r;obtain ⟨c3,d3,rfl,r3,r⟩:=r;obtain ⟨gO,d4,rfl,FH,r⟩:=r;obtain ⟨dS,d5,rfl,U9,r⟩:=r;obtain ⟨dH,d6,rfl,U_,r⟩:=r;obtain rfl:d6=[]:=r;obtain ⟨rfl,h0⟩:=jA;obtain ⟨rfl,h1⟩:=r1;obtain ⟨rfl,h2⟩:=r2;obtain ⟨v3,rfl,h3⟩:=r3;obtain rfl:gO=[.bool x.2.2.2.2.1]:=FH;obtain ⟨v5,rfl,h5⟩:=U9;obtain ⟨v6,rfl,h6⟩:=U_;exact ⟨v3,v5,v6,rfl,h0,h1,h2,h3,h5,h6⟩
theorem cv.sh {h:Fr} {cs:List Value} {x:aP} (r:cv.rel h cs x):∃ a3 a5 a6 c3 dS dH,cs=[.string (str x.1),.int .i64 x.2.1,.int .i64 x.2.2.1,.slice a3 x.2.2.2.1.length c3,.bool x.2.2.2.2.1,.slice a5 x.2.2.2.2.2.1.length dS,.slice a6 x.2.2.2.2.2.2.1.length dH]∧x.1.length≤9223372036854775807∧cK x.2.1∧cK x.2.2.1∧aj c_ h (.slice a3 x.2.2.2.1.length c3) x.2.2.2.1∧aj ag.u8 h (.slice a5 x.2.2.2.2.2.1.length dS) x.2.2.2.2.2.1∧aj ag.u8 h (.slice a6 x.2.2.2.2.2.2.1.length dH) x.2.2.2.2.2.2.1:=by
 obtain ⟨v3,v5,v6,rfl,h0,h1,h2,h3,h5,h6⟩:=cv.open r;obtain ⟨a3,c3,rfl⟩:=h3.shape;obtain ⟨a5,dS,rfl⟩:=h5.shape;obtain ⟨a6,dH,rfl⟩:=h6.shape;exact ⟨a3,a5,a6,c3,dS,dH,rfl,h0,h1,h2,h3,h5,h6⟩
theorem cv.mk {h:Fr} {x0:List UInt8} {x1:Int} {cI:Int} {ew:List dz} {v3:Value} {cZ:Bool} {eC:List UInt8} {v5:Value} {eD:List UInt8} {v6:Value} (h0:x0.length≤9223372036854775807) (h1:cK x1) (h2:cK cI) (h3:aj c_ h v3 ew) (h5:aj ag.u8 h v5 eC) (h6:aj ag.u8 h v6 eD):cv.rel h [.string (str x0),.int .i64 x1,.int .i64 cI,v3,.bool cZ,v5,v6] (x0,x1,cI,ew,cZ,eC,eD,()) :=
 ⟨[.string (str x0)],[.int .i64 x1,.int .i64 cI,v3,.bool cZ,v5,v6],rfl,⟨rfl,h0⟩,⟨[.int .i64 x1],[.int .i64 cI,v3,.bool cZ,v5,v6],rfl,⟨rfl,h1⟩,⟨[.int .i64 cI],[v3,.bool cZ,v5,v6],rfl,⟨rfl,h2⟩,⟨[v3],[.bool cZ,v5,v6],rfl,⟨v3,rfl,h3⟩,⟨[.bool cZ],[v5,v6],rfl,rfl,⟨[v5],[v6],rfl,⟨v5,rfl,h5⟩,⟨[v6],[],rfl,⟨v6,rfl,h6⟩,rfl⟩⟩⟩⟩⟩⟩⟩
abbrev dr (dF:rD):bS aP:=bS.prod (bS.pure ag.str) (bS.prod (bS.pure ag.i64) (bS.prod (bS.pure ag.i64) (bS.prod (bS.row c_ dF.dot) (bS.prod (bS.pure ag.bool) (bS.prod (bS.row ag.u8 dF.u8) (bS.prod (bS.row ag.u8 dF.u8) (bS.unit)))))))
theorem dr.mk {dF:rD} {m:Fr} {x0:List UInt8} {x1:Int} {cI:Int} {ew:List dz} {v3:Value} {cZ:Bool} {eC:List UInt8} {v5:Value} {eD:List UInt8} {v6:Value} (h0:x0.length≤9223372036854775807) (h1:cK x1) (h2:cK cI) (s:Sat [av c_ dF.dot v3 ew,av ag.u8 dF.u8 v5 eC,av ag.u8 dF.u8 v6 eD] m):(bS.prod (bS.pure ag.str) (bS.prod (bS.pure ag.i64) (bS.prod (bS.pure ag.i64) (bS.prod (bS.row c_ dF.dot) (bS.prod (bS.pure ag.bool) (bS.prod (bS.row ag.u8 dF.u8) (bS.prod (bS.row ag.u8 dF.u8) (bS.unit)))))))).own [.string (str x0),.int .i64 x1,.int .i64 cI,v3,.bool cZ,v5,v6] (x0,x1,cI,ew,cZ,eC,eD,()) m :=
 bS.x9 (T:=ag.str) (c:=[.string (str x0)]) ⟨rfl,h0⟩ (bS.x9 (T:=ag.i64) (c:=[.int .i64 x1]) ⟨rfl,h1⟩<|bS.x9 (T:=ag.i64) (c:=[.int .i64 cI]) ⟨rfl,h2⟩<|bS.AB (A:=(bS.row c_ dF.dot)) (c:=[v3]) (fun _ o=>⟨_,rfl,o⟩)<|bS.x9 (T:=ag.bool) (c:=[.bool cZ]) rfl<|bS.AB (A:=(bS.row ag.u8 dF.u8)) (c:=[v5]) (fun _ o=>⟨_,rfl,o⟩)<|bS.AB (A:=(bS.row ag.u8 dF.u8)) (c:=[v6]) (fun _ o=>⟨_,rfl,o⟩)<|fun _ _=>rfl) m s
abbrev aD:Type:=(List UInt8) × (List aP) × Unit
abbrev bP:ag aD:=ag.prod ag.str (ag.prod (ag.slice cv) (ag.unit))
theorem bP.open {h:Fr} {cs:List Value} {x:aD} (r:bP.rel h cs x):∃ v1,cs=[.string (str x.1),v1]∧x.1.length≤9223372036854775807∧aj cv h v1 x.2.1:=by
 obtain ⟨c0,d0,rfl,jA,r⟩:=r;obtain ⟨c1,d1,rfl,r1,r⟩:=r;obtain rfl:d1=[]:=r;obtain ⟨rfl,h0⟩:=jA;obtain ⟨v1,rfl,h1⟩:=r1;exact ⟨v1,rfl,h0,h1⟩
theorem bP.sh {h:Fr} {cs:List Value} {x:aD} (r:bP.rel h cs x):∃ a1 c1,cs=[.string (str x.1),.slice a1 x.2.1.length c1]∧x.1.length≤9223372036854775807∧aj cv h (.slice a1 x.2.1.length c1) x.2.1:=by
 obtain ⟨v1,rfl,h0,h1⟩:=bP.open r;obtain ⟨a1,c1,rfl⟩:=h1.shape;exact ⟨a1,c1,rfl,h0,h1⟩
theorem bP.mk {h:Fr} {x0:List UInt8} {x1:List aP} {v1:Value} (h0:x0.length≤9223372036854775807) (h1:aj cv h v1 x1):bP.rel h [.string (str x0),v1] (x0,x1,()) :=
 ⟨[.string (str x0)],[v1],rfl,⟨rfl,h0⟩,⟨[v1],[],rfl,⟨v1,rfl,h1⟩,rfl⟩⟩
abbrev ek (dF:rD):bS aD:=bS.prod (bS.pure ag.str) (bS.prod (bS.list (dr dF) dF.A3) (bS.unit))
theorem ek.mk {dF:rD} {m:Fr} {x0:List UInt8} {x1:List aP} {v1:Value} (h0:x0.length≤9223372036854775807) (s:Sat [cD (dr dF) dF.A3 v1 x1] m):(bS.prod (bS.pure ag.str) (bS.prod (bS.list (dr dF) dF.A3) (bS.unit))).own [.string (str x0),v1] (x0,x1,()) m :=
 bS.x9 (T:=ag.str) (c:=[.string (str x0)]) ⟨rfl,h0⟩ (bS.AB (A:=(bS.list (dr dF) dF.A3)) (c:=[v1]) (fun _ o=>⟨_,rfl,o⟩)<|fun _ _=>rfl) m s
abbrev GN:Type:=(List UInt8) × (List UInt8) × Unit
abbrev ed:Type:=UInt8 × (List UInt8) × (List UInt8) × (List aD) × Unit
abbrev jV:ag ed:=ag.prod ag.u8 (ag.prod (ag.slice ag.u8) (ag.prod (ag.slice ag.u8) (ag.prod (ag.slice bP) (ag.unit))))
theorem jV.open {h:Fr} {cs:List Value} {x:ed} (r:jV.rel h cs x):∃ v1 v2 v3,cs=[bK x.1,v1,v2,v3]∧aj ag.u8 h v1 x.2.1∧aj ag.u8 h v2 x.2.2.1∧aj bP h v3 x.2.2.2.1:=by
 obtain ⟨c0,d0,rfl,jA,r⟩:=r;obtain ⟨c1,d1,rfl,r1,r⟩:=r;obtain ⟨c2,d2,rfl,r2,r⟩:=r;obtain ⟨c3,d3,rfl,r3,r⟩:=r;obtain rfl:d3=[]:=r;obtain rfl:c0=[bK x.1]:=jA;obtain ⟨v1,rfl,h1⟩:=r1;obtain ⟨v2,rfl,h2⟩:=r2;obtain ⟨v3,rfl,h3⟩:=r3;exact ⟨v1,v2,v3,rfl,h1,h2,h3⟩
theorem jV.sh {h:Fr} {cs:List Value} {x:ed} (r:jV.rel h cs x):∃ a1 a2 a3 c1 c2 c3,cs=[bK x.1,.slice a1 x.2.1.length c1,.slice a2 x.2.2.1.length c2,.slice a3 x.2.2.2.1.length c3]∧aj ag.u8 h (.slice a1 x.2.1.length c1) x.2.1∧aj ag.u8 h (.slice a2 x.2.2.1.length c2) x.2.2.1∧aj bP h (.slice a3 x.2.2.2.1.length c3) x.2.2.2.1:=by
 obtain ⟨v1,v2,v3,rfl,h1,h2,h3⟩:=jV.open r;obtain ⟨a1,c1,rfl⟩:=h1.shape;obtain ⟨a2,c2,rfl⟩:=h2.shape;obtain ⟨a3,c3,rfl⟩:=h3.shape;exact ⟨a1,a2,a3,c1,c2,c3,rfl,h1,h2,h3⟩
theorem jV.mk {h:Fr} {x0:UInt8} {x1:List UInt8} {v1:Value} {cI:List UInt8} {v2:Value} {ew:List aD} {v3:Value} (h1:aj ag.u8 h v1 x1) (h2:aj ag.u8 h v2 cI) (h3:aj bP h v3 ew):jV.rel h [bK x0,v1,v2,v3] (x0,x1,cI,ew,()) :=
 ⟨[bK x0],[v1,v2,v3],rfl,rfl,⟨[v1],[v2,v3],rfl,⟨v1,rfl,h1⟩,⟨[v2],[v3],rfl,⟨v2,rfl,h2⟩,⟨[v3],[],rfl,⟨v3,rfl,h3⟩,rfl⟩⟩⟩⟩
abbrev Mp:Type:=(List (List UInt8)) × (List GN) × Unit
abbrev jX:Type:=Int × Int × Int × (List UInt8) × (List UInt8) × Unit
abbrev jh:ag jX:=ag.prod ag.i64 (ag.prod ag.i64 (ag.prod ag.i64 (ag.prod (ag.slice ag.u8) (ag.prod (ag.slice ag.u8) (ag.unit)))))
theorem jh.open {h:Fr} {cs:List Value} {x:jX} (r:jh.rel h cs x):∃ v3 v4,cs=[.int .i64 x.1,.int .i64 x.2.1,.int .i64 x.2.2.1,v3,v4]∧cK x.1∧cK x.2.1∧cK x.2.2.1∧aj ag.u8 h v3 x.2.2.2.1∧aj ag.u8 h v4 x.2.2.2.2.1:=by
 obtain ⟨c0,d0,rfl,jA,r⟩:=r;obtain ⟨c1,d1,rfl,r1,r⟩:=r;obtain ⟨c2,d2,rfl,r2,r⟩:=r;obtain ⟨c3,d3,rfl,r3,r⟩:=r;obtain ⟨gO,d4,rfl,FH,r⟩:=r;obtain rfl:d4=[]:=r;obtain ⟨rfl,h0⟩:=jA;obtain ⟨rfl,h1⟩:=r1;obtain ⟨rfl,h2⟩:=r2;obtain ⟨v3,rfl,h3⟩:=r3;obtain ⟨v4,rfl,h4⟩:=FH;exact ⟨v3,v4,rfl,h0,h1,h2,h3,h4⟩
theorem jh.sh {h:Fr} {cs:List Value} {x:jX} (r:jh.rel h cs x):∃ a3 a4 c3 gO,cs=[.int .i64 x.1,.int .i64 x.2.1,.int .i64 x.2.2.1,.slice a3 x.2.2.2.1.length c3,.slice a4 x.2.2.2.2.1.length gO]∧cK x.1∧cK x.2.1∧cK x.2.2.1∧aj ag.u8 h (.slice a3 x.2.2.2.1.length c3) x.2.2.2.1∧aj ag.u8 h (.slice a4 x.2.2.2.2.1.length gO) x.2.2.2.2.1:=by
 obtain ⟨v3,v4,rfl,h0,h1,h2,h3,h4⟩:=jh.open r;obtain ⟨a3,c3,rfl⟩:=h3.shape;obtain ⟨a4,gO,rfl⟩:=h4.shape;exact ⟨a3,a4,c3,gO,rfl,h0,h1,h2,h3,h4⟩
theorem jh.mk {h:Fr} {x0:Int} {x1:Int} {cI:Int} {ew:List UInt8} {v3:Value} {cZ:List UInt8} {v4:Value} (h0:cK x0) (h1:cK x1) (h2:cK cI) (h3:aj ag.u8 h v3 ew) (h4:aj ag.u8 h v4 cZ):jh.rel h [.int .i64 x0,.int .i64 x1,.int .i64 cI,v3,v4] (x0,x1,cI,ew,cZ,()) :=
 ⟨[.int .i64 x0],[.int .i64 x1,.int .i64 cI,v3,v4],rfl,⟨rfl,h0⟩,⟨[.int .i64 x1],[.int .i64 cI,v3,v4],rfl,⟨rfl,h1⟩,⟨[.int .i64 cI],[v3,v4],rfl,⟨rfl,h2⟩,⟨[v3],[v4],rfl,⟨v3,rfl,h3⟩,⟨[v4],[],rfl,⟨v4,rfl,h4⟩,rfl⟩⟩⟩⟩⟩
abbrev Gx:Type:=jX × jX × Unit
abbrev Ml:Type:=(List aD) × (List jX) × (List Gx) × (List Int) × Unit
end Go.Sp
end
section
/- Texts of this proof, one behind the other. -/
section
/- Texts of this proof, one behind the other. -/
section
/- Texts of this proof. -/
namespace Go.Sp
abbrev GL:=List UInt8 × Value × Nat
theorem F3 (a b:List UInt8):(str a ==str b)=decide (a=b):=by
 show (ByteArray.beq (str a) (str b))=_
 unfold ByteArray.beq
 by_cases h:a=b
 ·subst h;simp
 ·simp [h,str]
section
variable {ro:Option Nat} {P:Program} {fn:Func} {n:Nat} {R:Ending→World→Prop} {k:List Item} {σ:List (Nat × Value)} {D:List Deferred} {g:bn} {U ζ aO:List az} {ops:Array Oper} {i d:Nat} {ls:List Nat}
 {t tk te:TypeId} {x y z:Operand} {b c:Nat} {l:List GL} {key:List UInt8} {w:World}
theorem We (hk:P.underlying tk=some .string) (e:Bool) (n:Nat):(Instr.checkKey e (n+1) tk (.string (str key))).run P w=.ok () w:=by
 simp only [Instr.checkKey,Sem.run_bind,run_underlying hk,Result.andThen]
 rfl
theorem run_next_at {ty bm since c0 Hu r:Nat} {seen:Array Nat} {es:Array MapEntry} (hr:w.heap[r]?=some (.mapIter (some bm) since seen c0)) (hb:w.heap[bm]?=some (.map es Hu)) (hold:∀ x∈es.toList,x.born<since) (hsc:since≤c0) :
  ((leftOf es seen).size=0∧(Instr.next (.pointer (some ⟨r,0,none⟩)) false ty).run P w=.ok (.tuple #[.bool false]) w) ∨
  ∃ e∈(leftOf es seen).toList,∃ n:Nat,w.drawn≤n∧(Instr.next (.pointer (some ⟨r,0,none⟩)) false ty).run P w=.ok (.tuple #[.bool true,e.key,e.val]) (({ w with drawn:=n }:World).putObj r (.mapIter (some bm) since (seen.push e.born) Hu)):=by
 simp only [Instr.next,getObj,Sem.run_bind,Sem.run,hr,hb,Result.andThen,next_test_false seen es since c0 hold hsc,Bool.false_eq_true,if_false];unfold leftOf;have hmem:∀ x∈(Array.filter (fun e=>!seen.contains e.born) es).toList,x.born<since:=fun x hx=>hold x (by simp at hx ⊢;exact hx.1);generalize Array.filter (fun e=>!seen.contains e.born) es=L at hmem ⊢;have e1:L.filter (fun x=>decide (x.born<since))=L:=Array.filter_eq_self.2 (fun x hx=>by simpa using hmem x (by simpa using hx));have e2:L.filter (fun x=>decide (x.born≥since))=#[]:=by
  rw [Array.filter_eq_empty_iff]
  intro x hx
  have:=hmem x (by simpa using hx)
  simp
  omega
 simp only [e1,e2,Array.append_empty]
 by_cases h0:L.size=0
 ·left
  have:L=#[]:=Array.eq_empty_of_size_eq_zero h0;subst this;refine ⟨rfl,?_⟩
  simp [choose,Sem.run,Question.forced]
 ·right
  have hne:L.isEmpty=false:=by simp [Array.isEmpty,h0]
  simp only [hne,Bool.false_eq_true,if_false,Array.empty_append,Array.size_map];have hch:∃ (j n:Nat),j<L.size∧w.drawn≤n∧(choose (Question.mapNext L.size)).run P w=.ok j { w with drawn:=n }:=by
   by_cases hf:L.size≤1
   ·exact ⟨0,w.drawn,by omega,Nat.le_refl _,by simp [choose,Sem.run,Question.forced,hf]⟩
   ·exact ⟨_,w.drawn+1,Nat.mod_lt _ (by omega),Nat.le_succ _,by
     simp only [choose,Sem.run,Question.forced,decide_eq_true_eq,hf,if_false,Question.cut]
     rfl⟩
  obtain ⟨j,n,hj,hnn,hrun⟩:=hch;refine ⟨L[j],by simp,n,hnn,?_⟩;have pH:∀ (o' :Obj),(setObj r o').run P ({ w with drawn:=n }:World)=.ok () (({ w with drawn:=n }:World).putObj r o'):=fun o' =>by
   simp only [setObj,Sem.run];rw [show ({ w with drawn:=n }:World).heap[r]?=some (.mapIter (some bm) since seen c0) from hr]
   rfl
  simp only [hrun,Array.getElem?_map,Array.getElem?_eq_getElem hj,Option.map_some,Sem.run_bind,pH,Result.andThen]
  rfl
end
end Go.Sp
end
section
/- Texts of this proof, one behind the other. -/
section
/- Texts of this proof. -/
namespace Go.Sp
section
variable {ro:Option Nat} {P:Program} {fn:Func} {n:Nat} {R:Ending→World→Prop} {k:List Item} {σ:List (Nat × Value)} {D:List Deferred} {g:bn} {U ζ aO:List az} {ops:Array Oper} {i d:Nat} {ls:List Nat}
 {t tk te e:TypeId} {x y z:Operand} {b c:Nat} {l:List GL} {w:World}
theorem Xj (xs:List UInt8) (j:Nat):(str xs)[j]?=xs[j]?:=by
 by_cases h:j<xs.length
 ·rw [List.getElem?_eq_getElem h,getElem?_pos (str xs) j (by rw [sI];exact h)]
  rfl
 ·rw [List.getElem?_eq_none (by omega),getElem?_neg (str xs) j (by rw [sI];exact h)]
theorem aG.vG {xs:List UInt8} {kd:IntKind} {cq:Int} {j:Nat} (ht:P.underlying t=some .string) (hx:aA σ x=some (.string (str xs))) (hy:aA σ y=some (.int kd cq)) (hz:cq=(j:Int)) (hj:j<xs.length) :
  aG P (.index t x y) σ g U (bK xs[j]) U:=.run fun o ρ w ho hk=>by
 subst hz;have h:=Xj xs j;rw [List.getElem?_eq_getElem hj] at h
 simp [execOp,ho,hk x _ hx,hk y _ hy,Instr.index,asIntOf,run_underlying ht,h]
 rfl
theorem aG.p_ {kd:IntKind} {cq:Int} {j len bo off:Nat} (ht:P.underlying t=some (.array len e)) (he:(P.info? e).map (·.size)=some 1) (hx:aA σ x=some (.pointer (some ⟨bo,off,none⟩))) (hy:aA σ y=some (.int kd cq)) (hz:cq=(j:Int)) (hj:j<len) :
  aG P (.indexAddr t x y) σ g U (.pointer (some ⟨bo,off+j,none⟩)) U:=.run fun o ρ w ho hk=>by
 subst hz
 simp [execOp,ho,hk x _ hx,hk y _ hy,Instr.indexAt,Instr.sureAddr,asIntOf,run_underlying ht,hj,run_sizeOf he,Addr.add]
theorem aG.kK {kd:IntKind} {cq:Int} {j len:Nat} {p:Addr} (ht:P.underlying t=some (.array len e)) (he:(P.info? e).map (·.size)=some 1) (hx:aA σ x=some (.pointer (some p))) (hy:aA σ y=some (.int kd cq)) (hz:cq=(j:Int)) (hj:j<len) :
  aG P (.indexAddr t x y) σ g U (.pointer (some (p.add j))) U:=.run fun o ρ w ho hk=>by
 subst hz
 simp [execOp,ho,hk x _ hx,hk y _ hy,Instr.indexAt,Instr.sureAddr,asIntOf,run_underlying ht,hj,run_sizeOf he]
def Lr (cs:List UInt8):List Value:=(List.range 256).map fun i=>.bool (decide (i∈cs.map (·.toNat)))
@[simp] theorem abk (cs:List UInt8):(Lr cs).length=256:=by simp [Lr]
theorem Wk {m:Option Nat} (ht:P.underlying t=some (.map tk te)):(Op.equal t (.map m) (.map none)).run P w=.ok m.isNone w:=by
 show (Op.equalIn (9999+1) t (.map m) (.map none)).run P w=.ok m.isNone w
 unfold Op.equalIn;simp only [Sem.run_bind,run_underlying ht,Result.andThen]
 cases m<;>rfl
theorem aG.TT {m:Option Nat} {u:TypeId} (ht:P.underlying t=some (.map tk te)) (hx:aA σ x=some (.map m)) (hy:aA σ y=some (.map none)):aG P (.binOp .neq t x y u) σ g U (.bool m.isSome) U :=
 .run fun o ρ w ho hk=>by
  simp [execOp,ho,hk x _ hx,hk y _ hy,eqGuard,Go.binOp,Wk (w:=w) (m:=m) ht]
  try cases m<;>rfl
theorem aG.uC {xs:List UInt8} {kb:IntKind} {lM:Int} {b:Nat} (ht:P.underlying t=some .string) (hx:aA σ x=some (.string (str xs))) (hy:aA σ y=some (.int kb lM)) (hz:lM=(b:Int)) (hb:b≤xs.length) :
  aG P (.slice t x none (some y) none) σ g U (.string (str (xs.take b))) U:=by
 subst hz;exact F4 (P:=P) (σ:=σ) (g:=g) (kl:=.i64) (kh:=kb) (a:=0) (b:=b) ht hx (lo:=none) (hi:=some y) (fun _ h=>nomatch h) (fun _=>rfl) (fun _ h=>by cases h;exact hy) (fun h=>nomatch h) (Nat.zero_le _) hb U
end
end Go.Sp
end
section
/- Texts of this proof. -/
namespace Go.Sp
abbrev GM:=List (List UInt8 × List UInt8 × Nat)
def abm (m:GM):Nat:=(m.map fun x=>x.2.1.length).sum
section
variable {ro:Option Nat} {P:Program} {fn:Func} {n:Nat} {R:Ending→World→Prop} {k:List Item} {σ:List (Nat × Value)} {D:List Deferred} {g:bn} {U ζ aO:List az} {ops:Array Oper} {i d:Nat} {ls:List Nat}
 {t tk te:TypeId} {x y z:Operand} {b c:Nat} {m:GM} {key v:List UInt8} {w:World}
end
end Go.Sp
end
end
end
section
/- Texts of this proof. -/
namespace Go.Sp
variable {ro:Option Nat} {P:Program} {fn:Func} {n:Nat} {R:Ending→World→Prop} {k:List Item} {σ:List (Nat × Value)} {D:List Deferred} {g:bn} {U:List az}
theorem S.FO {c:Code} (h:S ro P fn n R (.code c::.inLoop c::k) σ D g U):S ro P fn n R (.inLoop c::k) σ D g U :=
 fun a w hf hd hw=>.step (fun _ _=>stepR_inLoop) (h a w hf hd hw)
theorem S.Vu {P:Program} {fn:Func} {n:Nat} {R:Ending→World→Prop} {k:List Item} {σ:List (Nat × Value)} {D:List Deferred} {g:bn} {U ζ aO uO :List az} {f:FuncId} {x:Operand} {first cap:Array Value} {ps:Array Tmp} {vU:List Nat} {assign body:Code}
  {β BE dF:Type} {vs:β→BE→List Value} {own:β→BE→List az} (Ok Fin:List β→Prop) (W:List β→dF→List az) (x0:dF) (hx:aA σ x=some (.func (.func f) first cap)) (hc:dG P f=true) (hps:ps=vU.toArray) (mM:∀ y e,(vs y e).length=vU.length) (hb:vU.all (fun p=>Nat.blt p n)=true)
  (it:∀ (l:Nat) (J:List β→az),(∀ done y e,Ok (done++[y])→gF P l (vs y e).toArray g.h (own y e++[J done]) (aL fun u U=>u=.bool true∧U=[J (done++[y])])) →
   ay P f (first++#[pX l]++cap) g.h (aO++[J []]) (aL fun _ U=>∃ ys,Fin ys∧U=uO ++[J ys]))
  (hs:jF U (aO++W [] x0) ζ)
  (round:∀ (l jg o5:Nat) (tm:Array Value) (done:List β) (y:β) (e:BE) (t:dF) (_:Ok (done++[y])) (g' :bn),g.h.sub g'.h→∀ R:Ending→World→Prop,
   (∀ t' w,Holds w g' (blk l (.loop (qb o5 tm ps assign body jg))::W (done++[y]) t')→R (.returned (.bool true)) w) →
   S (some l) P fn n R [.code assign,.beginRound,.code body] (under vU (vs y e) σ) [] g' (blk l (.loop (qb o5 tm ps assign body jg))::(W done t++own y e)))
  (h:∀ jg t ys,Fin ys→S none P fn n R k σ (⟨.collected jg,#[]⟩::D) g (blk jg (.deferred (some []))::(W ys t++(uO ++ζ)))) :
  S none P fn n R (.code (.rangeFunc x ps assign body)::k) σ D g U:=by
 refine S.rangeFunc (J:=fun j uN =>j=none∧∃ ys t,Fin ys∧uN =W ys t++(uO ++ζ)) hx hc (fun l jg o5 tm hfn hfit=>?_) (fun jg jump uN hJ=>?_)
 ·let L:=qb o5 tm ps assign body jg
  have hy:∀ done y e,Ok (done++[y])→gF P l (vs y e).toArray g.h (own y e++[fun m=>∃ t,Sat (blk l (.loop L)::W done t) m]) (aL fun u U=>u=.bool true∧U=[fun m=>∃ t,Sat (blk l (.loop L)::W (done++[y]) t) m]):=by
   intro done y e hpre
   refine gF.perm (List.perm_append_comm) (gF.th (A:=fun t m=>Sat (blk l (.loop L)::W done t) m) fun t=>?_);refine gF.imp (ζ:=blk l (.loop L)::(W done t++own y e)) (fun _ z=>Sat.unpack (fun _ u=>u) z) ?_;refine gF.of (fn:=fn) (n:=n) (σ:=σ) (vs y e) vU rfl hps (mM y e) hb hfn hfit (fun g' hg' R hR=>?_);exact round l jg o5 tm done y e t hpre g' hg' R fun t' w hw=>hR _ _ w ⟨rfl,rfl⟩ (Holds.pack (ζ:=[]) (ws:=blk l (.loop L)::W (done++[y]) t') (A:=fun m=>∃ t,Sat (blk l (.loop L)::W (done++[y]) t) m) (fun _ z=>⟨t',z⟩) (by simpa using hw))
  have hi:=(it l _ hy).frame (ζ:=ζ)
  intro g' hg' w hw
  have hw1:Holds w g' ((aO++[fun m=>∃ t,Sat (blk l (.loop L)::W [] t) m])++ζ):=by
   have hp:(blk l (.loop L)::U).Perm ((blk l (.loop L)::W [] x0)++(aO++ζ)):=by
    refine (List.Perm.cons _ hs.perm).trans ?_;rw [List.cons_append,List.append_assoc];refine List.Perm.cons _ ?_;rw [← List.append_assoc,← List.append_assoc];exact List.Perm.append_right _ List.perm_append_comm
   have h1:=Holds.pack (A:=fun m=>∃ t,Sat (blk l (.loop L)::W [] t) m) (fun _ z=>⟨x0,z⟩) (hw.perm hp);refine h1.perm ?_;rw [← List.cons_append,List.append_assoc];exact (List.perm_append_comm (l₁:=[_]) (l₂:=aO)).append_right ζ |>.trans (by rw [List.append_assoc])
  refine (hi g' hg' w hw1).mono fun e w' hh=>?_;obtain ⟨ax,⟨cW,hp,rfl⟩,hw'⟩:=hh
  cases e with
  |panicked _=>exact hp.elim
  |outgrown=>exact hp.elim
  |returned v =>
   obtain ⟨ys,lB,rfl⟩:∃ ys,Fin ys∧cW=_:=hp;have h2:Holds w' g' ((fun m=>∃ t,Sat (blk l (.loop L)::W ys t) m)::(uO ++ζ)):=hw'.perm (by
    rw [← List.cons_append];exact (List.perm_append_comm (l₁:=uO) (l₂:=[_])).append_right ζ)
   obtain ⟨t,h3⟩:=Holds.th (A:=fun t m=>Sat (blk l (.loop L)::W ys t) m) h2;exact ⟨_,⟨L,W ys t++(uO ++ζ),by simp [L,qb],⟨rfl,ys,t,lB,rfl⟩,rfl⟩,h3.imp fun _ z=>Sat.unpack (fun _ u=>u) z⟩
 ·obtain ⟨rfl,ys,t,lB,rfl⟩:=hJ
  exact h jg t ys lB
section
variable {ops:Array Oper} {l:List Nat} {i d:Nat} {T:TypeId} {x:Operand} {v:Value} {cs:List Value}
end
end Go.Sp
end
end
end
end
section
/- Texts of this proof, one behind the other. -/
section
/- Texts of this proof, one behind the other. -/
section
/- Texts of this proof. -/
namespace Go.Sp
section
variable {ro:Option Nat} {P:Program} {fn:Func} {n:Nat} {R:Ending→World→Prop} {ops:Array Oper} {k:List Item} {σ:List (Nat × Value)} {D:List Deferred} {g:bn} {U ζ aO:List az} {t e:TypeId} {x y:Operand}
theorem S.iw {todo:List Item} {B:az} (s:bg U B ζ) (h:∀ g' :bn,g.h.sub g'.h→(∃ m:Fr,B m∧m.sub g'.h)→(∀ {w:World} {aO:List az},Holds w g' aO→Holds w g (B::aO))→S ro P fn n R todo σ D g' ζ):S ro P fn n R todo σ D g U :=
 S.cB s (S.freeze fun m hm hd=>h (g.add m) (Fr.dh _ _) ⟨m,hm,Fr.dB hd⟩ fun hw=>hw.oH hm hd)
theorem af.xZ {g0:bn} {T:TypeId} {b i j:Nat} {cs:List Value} {v:Value} (ho:kf ops j=some (.store t x y)) (hl:JN ops j=true) (Rn:∀ w,Holds w g U→Holds w g0 ζ) (ht:dY P t=true) (hx:aA σ x=some (.pointer (some ⟨b,i,none⟩))) (hy:aA σ y=some v)
  (h1:v.oneCell' =true) (hs:bg ζ (obj b T cs) aO) (hc:i<cs.length) (h:S none P fn n R k σ D g0 (obj b T (cs.set i v)::aO)):af P fn n R ops k D g [j] σ U :=
 .one rfl (.q4 ho rfl hl (fun o ρ w q1 q2 cM=>let ⟨w',a,b⟩:=kn.bp ht hx hy h1 hs hc o ρ w q1 q2 (Rn w cM);⟨w',.skip,a,.inl rfl,b⟩) h)
theorem S.fold {todo:List Item} {A:az} {bs:List az} (hA:∀ m,Sat bs m→A m) (h:S ro P fn n R todo σ D g (A::ζ)):S ro P fn n R todo σ D g (bs++ζ) :=
 S.imp' (U:=bs++ζ) (ζ:=A::ζ) (fun m hm=>by
  obtain ⟨m1,m2,d,s1,s2,x,y⟩:=Sat.split hm;exact ⟨m1,m2,d,s1,s2,hA _ x,y⟩) h
theorem S.open {todo:List Item} {α:Type} {A:az} {bs:α→List az} (s:bg U A ζ) (hA:∀ m,A m→∃ x,Sat (bs x) m) (h:∀ x,S ro P fn n R todo σ D g (bs x++ζ)):S ro P fn n R todo σ D g U :=
 S.cB s (S.wU (ζ:=[fun m=>∃ x,Sat (bs x) m]) (fun m hm=>⟨m,Fr.emp,Fr.e5 (Fr.ea _),Fr.bY _,Fr.c6 _,hA m hm,trivial⟩) (S.th fun x=>S.wU (fun _ q=>q) (h x)))
theorem S.jd {todo:List Item} {α:Type} {T:ag α} {e:TypeId} {v v' :Value} {xs xs' :List α} (s:bg U (av T e v xs) ζ) (hv:v=v') (hx:xs=xs') (h:S ro P fn n R todo σ D g (av T e v' xs' ::ζ)):S ro P fn n R todo σ D g U:=by
 subst hv hx;exact S.cB s h
theorem TD (a b:List (Nat × Value)) (t:Nat):look (a++b) t=match look a t with|some v=>some v|none=>look b t:=by
 induction a with
 |nil=>rfl
 |cons x a ih =>
  cases hq:x.1.beq t
  ·simp only [List.cons_append,look,hq];exact ih
  ·simp only [List.cons_append,look,hq]
theorem Sub.app {a b σ:List (Nat × Value)} (ha:Sub a σ) (hb:Sub b σ):Sub (a++b) σ:=fun t v h=>by
 rw [TD] at h
 cases hq:look a t with
 |some u=>rw [hq] at h;exact ha t v (by rw [hq];exact h)
 |none=>rw [hq] at h;exact hb t v h
theorem S.FN {α:Type} {L:List Nat} {id:Nat} (lv:α→List (Nat × Value)) (uP:List (Nat × Value)) (ax :α→List az) (_:Sub uP σ) (hm:P.follows .mixedOrders=true) (hok:AK P n ops L=true)
  (h1:∀ kk,(∀ x,S none P fn n R kk (lv x++uP) D g (ax x))→af P fn n R ops kk D g L σ U) (h2:∀ x,S none P fn n R k (lv x++uP) D g (ax x)):S none P fn n R (.code (.region id ops true)::k) σ D g U :=
 S.bC hm hok (h1 k h2)
theorem S.vb {ro:Option Nat} {α:Type} {i0 i1:Item} {kk:List Item} (φ:α→Prop) (lv:α→List (Nat × Value)) (uP:List (Nat × Value)) (ax :α→List az) (_:Sub uP σ)
  (h1:(∀ x,φ x→S ro P fn n R kk (lv x++uP) D g (ax x))→S ro P fn n R (i0::i1::kk) σ D g U) (h2:∀ x,φ x→S ro P fn n R kk (lv x++uP) D g (ax x)):S ro P fn n R (i0::i1::kk) σ D g U:=h1 h2
theorem bF.pS {t2:TypeId} {xs:List UInt8} (ht:P.underlying t=some .string) (ht2:P.underlying t2=some (.slice e)) (he:P.underlying e=some (.int .u8)) (hx:aA σ x=some (.string (str xs))) (hl:xs.length≤9223372036854775807) :
  bF P (.convert t t2 x) σ g U fun u ax =>∃ a c,u=.slice a xs.length c∧ax =av ag.u8 e u xs::U :=
 fun o ρ w ho hk hw=>by
  have hr:=Lib.run_convert_string_bytes (P:=P) w t t2 e (str xs) ht ht2 he;have ho' :(execOp ρ o).run P w=.ok (.value (.slice (some ⟨w.heap.size,0,none⟩) (str xs).size (grownCap w (str xs).size 0 e))) (Lib.bytesWorld w e (str xs)):=by
   simp [execOp,ho,hk x _ hx,hr]
  have hge:=grownCap_ge w (str xs).size 0 e;have hcm:=grownCap_le_maxLen w (str xs).size 0 e (by simpa [maxLen] using hl);rw [sI] at hge hcm;have hh:Holds (Lib.bytesWorld w e (str xs)) g (blk w.heap.size (.cells (Lib.bytesCells w e (str xs)) e ((Lib.bytesCells w e (str xs)).size,(Lib.bytesCells w e (str xs)).size+1))::U):=by
   have h1:Holds (w.drew.alloc (.cells (Lib.bytesCells w e (str xs)) e)) g (blk w.heap.size (.cells (Lib.bytesCells w e (str xs)) e)::U):=(hw.drewN (w.drawn+1) (Nat.le_add_right _ _)).alloc _;refine h1.setBlock (Lib.bytesWorld_at_new w e (str xs)) ?_ rfl rfl rfl
   intro i hi
   have:w.heap.size≠i:=fun h=>hi h.symm
   simp [Lib.bytesWorld,World.freeze,Array.getElem?_modify,this]
  have hsz:(Lib.bytesCells w e (str xs)).size=grownCap w xs.length 0 e:=by
   simp only [Lib.bytesCells,Array.size_append,Array.size_map,Array.size_replicate,sI]
   simp [str];omega
  have e1:(xs.map (fun b=>[bK b])).flatten=xs.map bK:=by
   clear hx hl hr ho' hge hcm hh hsz
   induction xs with
   |nil=>rfl
   |cons a xs ih=>simp [ih]
  refine ⟨_,_,_,⟨some ⟨w.heap.size,0,none⟩,grownCap w xs.length 0 e,by rw [sI],rfl⟩,ho',?_⟩;rw [sI];refine (hh.uo (k:=1) (m:=xs.length) (cap:=grownCap w xs.length 0 e) (cs:=(xs.map (fun b=>[bK b])).flatten) (fun j hj h=>by have h1:=h.1;simp only [hsz] at h1;omega) hge (by simpa [maxLen] using hcm) (by rw [hsz];simp) ?_).imp fun _ =>
   Sat.fk (av.of (T:=ag.u8) (ak:=xs.map fun b=>[bK b]) (GU (fun _=>rfl) xs) rfl rfl rfl) fun _ q=>q
  rw [e1];simp only [Lib.bytesCells,Nat.mul_one]
  simp [str,bK]
theorem af.B6 {l:List Nat} (a b c:Nat) (la lb lc:List Nat) (hok:wD ops [a,b,c] l=true) (ha:l.erase a=la) (hb:l.erase b=lb) (hc:l.erase c=lc)
  (h1:aJ P fn n R ops k D g true (a::la) σ U) (h2:aJ P fn n R ops k D g true (b::lb) σ U) (h3:aJ P fn n R ops k D g true (c::lc) σ U):af P fn n R ops k D g l σ U:=by
 subst ha hb hc;refine .alt [a,b,c] hok fun i hi=>?_;simp only [List.mem_cons,List.not_mem_nil,or_false] at hi
 rcases hi with rfl|rfl|rfl
 ·exact h1
 ·exact h2
 ·exact h3
theorem cO.pS {fl:Bool} {i d:Nat} {t2:TypeId} {xs:List UInt8} {l:List Nat} (ho:bJ ops i n σ d (.convert t t2 x)) (hd:ei fl ops i l=true) (ht:P.underlying t=some .string) (ht2:P.underlying t2=some (.slice e)) (he:P.underlying e=some (.int .u8)) (hx:aA σ x=some (.string (str xs))) (hl:xs.length≤9223372036854775807)
  (h:∀ a c,af P fn n R ops k D g l ((d,.slice a xs.length c)::σ) (av ag.u8 e (.slice a xs.length c) xs::U)):aJ P fn n R ops k D g fl (i::l) σ U :=
 cO.f_ (K:=fun u ax =>∃ a c,u=.slice a xs.length c∧ax =av ag.u8 e u xs::U) ho rfl hd
  (fun ζ=>(bF.pS (U:=U++ζ) ht ht2 he hx hl).imp fun v ax ⟨a,c,h1,h2⟩=>⟨_,⟨a,c,h1,rfl⟩,h2⟩) (by rintro v _ ⟨a,c,rfl,rfl⟩;exact h a c)
theorem af.pS {i d:Nat} {t2:TypeId} {xs:List UInt8} {l:List Nat} (ho:bJ ops i n σ d (.convert t t2 x)) (hd:eH ops [i] l=true) (ht:P.underlying t=some .string) (ht2:P.underlying t2=some (.slice e)) (he:P.underlying e=some (.int .u8)) (hx:aA σ x=some (.string (str xs))) (hl:xs.length≤9223372036854775807)
  (h:∀ a c,af P fn n R ops k D g l ((d,.slice a xs.length c)::σ) (av ag.u8 e (.slice a xs.length c) xs::U)):af P fn n R ops k D g (i::l) σ U:=cO.pS (fl:=false) ho (by simpa [ei] using hd) ht ht2 he hx hl h
theorem bT.pS {i d:Nat} {t2:TypeId} {xs:List UInt8} {l:List Nat} (ho:bJ ops i n σ d (.convert t t2 x)) (_:true=true) (ht:P.underlying t=some .string) (ht2:P.underlying t2=some (.slice e)) (he:P.underlying e=some (.int .u8)) (hx:aA σ x=some (.string (str xs))) (hl:xs.length≤9223372036854775807)
  (h:∀ a c,af P fn n R ops k D g l ((d,.slice a xs.length c)::σ) (av ag.u8 e (.slice a xs.length c) xs::U)):aJ P fn n R ops k D g true (i::l) σ U:=cO.pS (fl:=true) ho rfl ht ht2 he hx hl h
end
end Go.Sp
end
section
/- Texts of this proof, one behind the other. -/
section
/- Texts of this proof. -/
namespace Go.Sp
theorem bX.Fm {β α:Type} {A:β→α→az}:∀ {bs:List β} {as:List α} {m:Fr},bs.length=as.length→Sat (List.zipWith A bs as) m→bX A bs as m
 |[],[],_,_,_=>trivial
 |[],_::_,_,h,_=>by cases h
 |_::_,[],_,h,_=>by cases h
 |b::bs,a::as,m,hl,h=>by
  obtain ⟨h1,h2,d,s1,s2,x,y⟩:=h;exact ⟨h1,h2,d,s1,s2,x,h2,Fr.emp,Fr.e5 (Fr.ea _),Fr.bY _,Fr.c6 _,bX.Fm (by simpa using hl) y,trivial⟩
section
variable {ro:Option Nat} {P:Program} {fn:Func} {n:Nat} {R:Ending→World→Prop} {σ:List (Nat × Value)} {D:List Deferred} {g:bn} {U ζ:List az} {todo:List Item} {ops:Array Oper} {L:List Nat} {k:List Item}
theorem S.ct {A:az} {bs:List az} (hb:jF U bs ζ) (hA:∀ m,Sat bs m→A m) (h:S ro P fn n R todo σ D g (A::ζ)):S ro P fn n R todo σ D g U :=
 S.perm hb.perm (S.fold hA h)
theorem S.vc {β α:Type} (A:β→α→az) {bs:List β} {ys:List α} (hb:jF U (List.zipWith A bs ys) ζ) (hl:bs.length=ys.length) (h:S ro P fn n R todo σ D g (bX A bs ys::ζ)):S ro P fn n R todo σ D g U :=
 S.ct hb (fun _ z=>bX.Fm hl z) h
end
theorem JV:∀ x y:List UInt8,Op.bytesLess x y=decide (x<y)
 |x,[]=>by cases x<;>simp [Op.bytesLess]
 |[],_::_=>by simp [Op.bytesLess]
 |a::x,b::y=>by
  rw [Op.bytesLess,JV x y];rw [Bool.eq_iff_iff]
  simp [List.cons_lt_cons_iff]
theorem TF (x y:List UInt8):Op.bytesLess (str x).toList (str y).toList=decide (x<y):=by rw [LG,LG,JV]
theorem S.back {ro:Option Nat} {P:Program} {fn:Func} {n:Nat} {R:Ending→World→Prop} {σ:List (Nat × Value)} {D:List Deferred} {g g' :bn} {U:List az} {todo:List Item} {B:az} (hb:∀ {w:World} {aO:List az},Holds w g' aO→Holds w g (B::aO)) (h:S ro P fn n R todo σ D g (B::U)):S ro P fn n R todo σ D g' U :=
 fun a w hf hd hw=>h a w hf hd (hb hw)
theorem ig {g g' :bn} {B:az} {Post:Ending→List az→Prop} {R:Ending→World→Prop} (hR:∀ e ax w',Post e ax →Holds w' g ax →R e w') (hb:∀ {w:World} {aO:List az},Holds w g' aO→Holds w g (B::aO)) :
  ∀ e ax w',Post e ax →Holds w' g' ax →R e w' :=fun e ax w' p h=>hR e ax w' p (hb h).drop
def ag.HB {α β:Type} (f:α→β) (T:ag β):ag α:={ k:=T.k,rel:=fun h cs a=>T.rel h cs (f a),len:=fun h=>T.len h,mono:=fun s h=>T.mono s h,one:=fun h=>T.one h }
theorem Fr.sub.mono {a b c:Fr} (h:a.sub b) (k:b.sub c):a.sub c:=Fr.aI h k
section
variable {ro:Option Nat} {P:Program} {fn:Func} {n:Nat} {R:Ending→World→Prop} {ops:Array Oper} {K:List Item} {σ:List (Nat × Value)} {D:List Deferred} {g:bn} {U:List az} {i d:Nat} {l:List Nat} {t e:TypeId} {x y:Operand} {v:Value} {kd:IntKind} {j:Nat} {r:Fr}
theorem JA {α:Type} {T:ag α} {xs:List α} (ht:P.underlying t=some (.slice e)) (he:(P.info? e).map (·.size)=some T.k) (hx:aA σ x=some v) {cq:Int} (hy:aA σ y=some (.int kd cq)) (dZ:cq=(j:Int))
  (hs:aj T r v xs) (gz:0<T.k) (hm:j<xs.length):∃ p cs,(∀ U,aG P (.indexAddr t x y) σ g U (.pointer (some p)) U)∧At r p cs∧T.rel r cs xs[j]:=by
 subst dZ;obtain ⟨ak,ha,fI⟩:=hs;obtain ⟨a,cap,rfl,h1,h2,h3,h4⟩:=fI
 cases a with
 |none =>
  have:0<ak.flatten.length:=by rw [h3];exact Nat.mul_pos (by omega) gz
  obtain ⟨p,hp,_⟩:=h4 0 this
  cases hp
 |some a =>
  have hj:j<ak.length:=by rw [ha.length];exact hm
  refine ⟨a.add (j*T.k),ak[j],fun U=>.run fun o ρ w ho hk=>?_,?_,ha.get j hj hm⟩
  ·have hij:(j:Int)<(xs.length:Int):=by omega
   simp [execOp,ho,hk x _ hx,hk y _ hy,Instr.indexAt,asIntOf,run_underlying ht,hm,run_sizeOf he]
  ·rw [← ha.tj j hj]
   intro q hq
   rw [Addr.add_add];have xF :j*T.k+q<ak.flatten.length:=by simp only [List.length_take,List.length_drop] at hq;omega
   obtain ⟨p,hp,hc⟩:=h4 _ xF
   cases hp
   rw [hc];simp
theorem O.xU {α:Type} {T:ag α} {xs:List α} (ho:bJ ops i n σ d (.indexAddr t x y)) (ht:P.underlying t=some (.slice e)) (he:(P.info? e).map (·.size)=some T.k) (hx:aA σ x=some v)
  {cq:Int} (hy:aA σ y=some (.int kd cq)) (dZ:cq=(j:Int)) (hs:aj T r v xs) (hr:r.sub g.h) (gz:0<T.k) (hm:j<xs.length)
  (h:∀ p cs,At g.h p cs→T.rel r cs xs[j]→O ro P fn n R ops l K ((d,.pointer (some p))::σ) D g U):O ro P fn n R ops (i::l) K σ D g U:=by
 obtain ⟨p,cs,h1,h2,h3⟩:=JA (g:=g) ht he hx hy dZ hs gz hm;exact O.op ho (h1 U) (h p cs (h2.mono hr) h3)
theorem af.xU {α:Type} {T:ag α} {xs:List α} (ho:bJ ops i n σ d (.indexAddr t x y)) (ht:P.underlying t=some (.slice e)) (he:(P.info? e).map (·.size)=some T.k) (hx:aA σ x=some v)
  {cq:Int} (hy:aA σ y=some (.int kd cq)) (dZ:cq=(j:Int)) (hs:aj T r v xs) (hr:r.sub g.h) (gz:0<T.k) (hm:j<xs.length)
  (h:∀ p cs,At g.h p cs→T.rel r cs xs[j]→af P fn n R ops K D g l ((d,.pointer (some p))::σ) U):af P fn n R ops K D g (i::l) σ U:=by
 obtain ⟨p,cs,h1,h2,h3⟩:=JA (g:=g) ht he hx hy dZ hs gz hm;exact .quiet ho rfl h1 (h p cs (h2.mono hr) h3)
end
end Go.Sp
end
section
/- Texts of this proof. -/
namespace Go.Sp
theorem pk {U ax :List az} {Q:List az→Prop} (h:Q ax) (hp:jE U ax :=by repeat (first|exact aS|exact aU|(apply aT;focus (repeat (first|exact aR|apply zt)))|apply aV)):∃ ax,Q ax ∧jE U ax :=⟨ax,h,hp⟩
section
variable {ro:Option Nat} {P:Program} {fn:Func} {n:Nat} {R:Ending→World→Prop} {k:List Item} {σ σ' :List (Nat × Value)} {D:List Deferred} {g:bn} {U ζ:List az} {ops:Array Oper} {L l:List Nat} {todo:List Item} {t e:TypeId} {x y:Operand} {v:Value}
theorem S.rt {s:Tmp} {Post:Ending→List az→Prop} {ax :List az} (hr:fn.results=#[.tmp s]) (hl:look σ s=some v) (hR:∀ e ax w',Post e ax →Holds w' g ax →R e w') (h:Post (.returned v) ax)
  (hp:jE U ax :=by repeat (first|exact aS|exact aU|(apply aT;focus (repeat (first|exact aR|apply zt)))|apply aV)):S none P fn n R (.code .ret::k) σ [] g U :=
 S.ret hr hl fun _ hw=>Holds.end_ hR hw ⟨ax,h,hp⟩
theorem S.pw (h:S ro P fn n R todo σ' D g ζ) (hs:Sub σ' σ:=by repeat (first|exact Sub.nil|refine Sub.cons rfl ?_))
  (hp:jE U ζ:=by repeat (first|exact aS|exact aU|(apply aT;focus (repeat (first|exact aR|apply zt)))|apply aV)):S ro P fn n R todo σ D g U:=S.pk hp (S.weaken hs h)
theorem S.dD (h:S ro P fn n R todo σ' D g U) (hs:Sub σ' σ:=by repeat (first|exact Sub.nil|refine Sub.cons rfl ?_)):S ro P fn n R todo σ D g U:=S.weaken hs h
theorem O.sT {b:Bool} (s:Nat) (hl:look σ s=some (.bool b)) (e:b=true) (h:O ro P fn n R ops L k ((s,.bool true)::σ) D g U):O ro P fn n R ops L k σ D g U:=O.slot s hl (congrArg Value.bool e) h
theorem O.aM {b:Bool} (s:Nat) (hl:look σ s=some (.bool b)) (e:b=false) (h:O ro P fn n R ops L k ((s,.bool false)::σ) D g U):O ro P fn n R ops L k σ D g U:=O.slot s hl (congrArg Value.bool e) h
theorem af.sT {b:Bool} (s:Nat) (hl:look σ s=some (.bool b)) (e:b=true) (h:af P fn n R ops k D g L ((s,.bool true)::σ) U):af P fn n R ops k D g L σ U:=af.slot s hl (congrArg Value.bool e) h
theorem af.aM {b:Bool} (s:Nat) (hl:look σ s=some (.bool b)) (e:b=false) (h:af P fn n R ops k D g L ((s,.bool false)::σ) U):af P fn n R ops k D g L σ U:=af.slot s hl (congrArg Value.bool e) h
theorem aG.lo {T:TypeId} {b j:Nat} {cs:List Value} (ht:dY P t=true) (hx:aA σ x=some (.pointer (some ⟨b,j,none⟩)):=by exact rfl) (hs:bg U (obj b T cs) ζ:=by repeat (first|exact aR|apply zt)) (hj:cs[j]?=some v:=by exact rfl):aG P (.load t x) σ g U v U:=.cV ht hx hs hj
theorem aG.gZ {T:TypeId} {b i:Nat} {cs news:List Value} (ht:∀ w,(isAgg t).run P w=.ok true w) (hsz:(P.info? t).map (·.size)=some news.length:=by kernel_rfl) (hx:aA σ x=some (.pointer (some ⟨b,i,none⟩)):=by exact rfl)
  (hs:bg U (obj b T cs) ζ:=by repeat (first|exact aR|apply zt)) (hn:(cs.drop i).take news.length=news:=by exact rfl):aG P (.load t x) σ g U (.agg news.toArray) U:=.sk ht hsz hx hs hn
theorem O.bR {α:Type} {T:ag α} {xs:List α} {i d j:Nat} {kd:IntKind} {cq:Int} (ho:bJ ops i n σ d (.indexAddr t x y)) (ht:P.underlying t=some (.slice e)) (he:(P.info? e).map (·.size)=some T.k) (hx:aA σ x=some v) (hy:aA σ y=some (.int kd cq)) (dZ:cq=(j:Int)) (hs:aj T g.h v xs)
  (gz:0<T.k:=by decide) (hm:j<xs.length:=by first|omega|(simp;done)|(simp;omega)|decide) (h:∀ p cs,At g.h p cs→T.rel g.h cs xs[j]→O ro P fn n R ops l k ((d,.pointer (some p))::σ) D g U):O ro P fn n R ops (i::l) k σ D g U:=O.idx' ho ht he hx hy dZ hs gz hm h
theorem af.bR {α:Type} {T:ag α} {xs:List α} {i d j:Nat} {kd:IntKind} {cq:Int} (ho:bJ ops i n σ d (.indexAddr t x y)) (ht:P.underlying t=some (.slice e)) (he:(P.info? e).map (·.size)=some T.k) (hx:aA σ x=some v) (hy:aA σ y=some (.int kd cq)) (dZ:cq=(j:Int)) (hs:aj T g.h v xs)
  (gz:0<T.k:=by decide) (hm:j<xs.length:=by first|omega|(simp;done)|(simp;omega)|decide) (h:∀ p cs,At g.h p cs→T.rel g.h cs xs[j]→af P fn n R ops k D g l ((d,.pointer (some p))::σ) U):af P fn n R ops k D g (i::l) σ U:=af.idx' ho ht he hx hy dZ hs gz hm h
theorem O.ib {α:Type} {T:ag α} {xs:List α} {r:Fr} {i d j:Nat} {kd:IntKind} {cq:Int} (ho:bJ ops i n σ d (.indexAddr t x y)) (ht:P.underlying t=some (.slice e)) (he:(P.info? e).map (·.size)=some T.k) (hx:aA σ x=some v) (hy:aA σ y=some (.int kd cq)) (dZ:cq=(j:Int)) (hs:aj T r v xs) (hr:r.sub g.h)
  (gz:0<T.k:=by decide) (hm:j<xs.length:=by first|omega|(simp;done)|(simp;omega)|decide) (h:∀ p cs,At g.h p cs→T.rel r cs xs[j]→O ro P fn n R ops l k ((d,.pointer (some p))::σ) D g U):O ro P fn n R ops (i::l) k σ D g U:=O.xU ho ht he hx hy dZ hs hr gz hm h
theorem af.ib {α:Type} {T:ag α} {xs:List α} {r:Fr} {i d j:Nat} {kd:IntKind} {cq:Int} (ho:bJ ops i n σ d (.indexAddr t x y)) (ht:P.underlying t=some (.slice e)) (he:(P.info? e).map (·.size)=some T.k) (hx:aA σ x=some v) (hy:aA σ y=some (.int kd cq)) (dZ:cq=(j:Int)) (hs:aj T r v xs) (hr:r.sub g.h)
  (gz:0<T.k:=by decide) (hm:j<xs.length:=by first|omega|(simp;done)|(simp;omega)|decide) (h:∀ p cs,At g.h p cs→T.rel r cs xs[j]→af P fn n R ops k D g l ((d,.pointer (some p))::σ) U):af P fn n R ops k D g (i::l) σ U:=af.xU ho ht he hx hy dZ hs hr gz hm h
end
end Go.Sp
end
end
end
section
/- Texts of this proof. -/
namespace Go.Sp
class Gu (P:Program) (t:TypeId) (e:outParam TypeId):Prop where h:P.underlying t=some (.slice e)
class Gv (P:Program) (t:TypeId):Prop where h:P.underlying t=some .string
class Mi (P:Program) (t:TypeId):Prop where h:dY P t=true
class Mj (P:Program) (s f:Nat) (o:outParam Nat):Prop where h:c8 P s f=some o
theorem yQ {P:Program} {t e:TypeId} [i:Gu P t e]:P.underlying t=some (.slice e):=i.h
theorem Yy {P:Program} {t:TypeId} [i:Gv P t]:P.underlying t=some .string:=i.h
theorem mC {P:Program} {t:TypeId} [i:Mi P t]:dY P t=true:=i.h
theorem wj {P:Program} {s f o:Nat} [i:Mj P s f o]:c8 P s f=some o:=i.h
section
variable {P:Program} {σ:List (Nat × Value)} {g:bn} {U:List az}
theorem aG.As {t:TypeId} {x:Operand} {e:TypeId} [Gu P t e] {a:Option Addr} {m c:Nat} (hx:aA σ x=some (.slice a m c)):aG P (.call ⟨.builtin .len,#[x],#[t]⟩) σ g U (.int .i64 (m:Int)) U:=.len (t:=t) rfl yQ hx
theorem aG.x7 {t:TypeId} {x:Operand} {p:Addr} {j:Nat} {cs:List Value} {v:Value} (ht:dY P t=true) (hx:aA σ x=some (.pointer (some (p.add j)))) (hp:At g.h p cs) (hv:cs[j]?=some v):aG P (.load t x) σ g U v U:=.loadAt ht hx (hp.drop j) (by rw [List.getElem?_drop];exact hv)
theorem aG.Aw {t:TypeId} {x:Operand} {p:Addr} {i j:Nat} {cs:List Value} {v:Value} (ht:dY P t=true) (hx:aA σ x=some (.pointer (some ((p.add i).add j)))) (hp:At g.h p cs) (hv:cs[i+j]?=some v):aG P (.load t x) σ g U v U:=.x7 ht (p:=p) (j:=i+j) (by rw [hx,Addr.add_add]) hp hv
class Mh (P:Program) (t:TypeId) (k:outParam Nat):Prop where
 h:∀ w,(isAgg t).run P w=.ok true w
 s:(P.info? t).map (·.size)=some k
def Fj {α:Type}:List α→Option (List α)
 |[]=>some []
 |a::l=>(Fj l).map (a::·)
theorem Ks {α:Type}:∀ {l m:List α},Fj l=some m→l=m
 |[],_,h=>by cases h;rfl
 |a::l,m,h=>by
  obtain ⟨q,h1,h2⟩:=Option.map_eq_some_iff.1 h;rw [Ks h1];exact h2
theorem aG.JZ {t:TypeId} {x:Operand} {T:TypeId} {b i K:Nat} {cs news:List Value} {ζ:List az} [c:Mh P t K] (hx:aA σ x=some (.pointer (some ⟨b,i,none⟩))) (hs:bg U (obj b T cs) ζ) (hn:Fj ((cs.drop i).take K)=some news) (hl:news.length=K):aG P (.load t x) σ g U (.agg news.toArray) U :=
 .sk c.h (by rw [hl];exact c.s) hx hs (by rw [hl];exact Ks hn)
theorem aG.Au {t:TypeId} {x:Operand} [Gv P t] {s:ByteArray} (hx:aA σ x=some (.string s)):aG P (.call ⟨.builtin .len,#[x],#[t]⟩) σ g U (.int .i64 (s.size:Int)) U:=.c5 (t:=t) rfl Yy hx
end
theorem aG.HX {P:Program} {σ:List (Nat × Value)} {g:bn} {U ζ:List az} {s f off b i:Nat} {x:Operand} {T:TypeId} {cs:List Value} (h:c8 P s f=some off) (hx:aA σ x=some (.pointer (some ⟨b,i,none⟩))) (_:bg U (obj b T cs) ζ):aG P (.fieldAddr s x f) σ g U (.pointer (some ⟨b,i+off,none⟩)) U:=.aH h hx
inductive Steps:Nat→Prop→Prop→Prop
 |z {A:Prop}:Steps 0 A A
 |s {n:Nat} {A B C:Prop} (f:C→A) (k:Steps n B C):Steps (n+1) B A
theorem Steps.run {n:Nat} {A B:Prop} (h:Steps n B A):B→A:=by
 induction h with
 |z=>exact id
 |s f _ ih=>exact fun b=>f (ih b)
theorem ab6 {A B:Prop} (n:Nat) (h:B) (f:Steps n B A:=by repeat (first|exact Steps.z|(apply Steps.s;focus (first|(with_reducible exact S.seq)|((with_reducible apply O.q 1);exact rfl)|(with_reducible exact O.nil)|((with_reducible apply S.region);exact rfl)|((with_reducible apply af.q 1);exact rfl)|(with_reducible exact S.skip)|(with_reducible exact S.block)|(with_reducible exact S.inBlock)|((with_reducible apply S.exit);exact rfl)|((with_reducible apply S.bx);exact rfl)|((with_reducible apply S.aQ);exact rfl)|(with_reducible exact S.L0)|(with_reducible exact S.FO)|(with_reducible exact aJ.nil)|(apply O.op;exact .p rfl;(first|exact aG.As rfl|exact aG.lss rfl rfl|exact aG.HX wj rfl (by repeat (first|exact aR|apply zt))|exact aG.fieldAddr wj rfl|exact aG.lo mC|exact aG.JZ rfl (by repeat (first|exact aR|apply zt)) (by exact rfl) (by exact rfl)|exact aG.loadAt mC rfl (by assumption) (by exact rfl)|exact aG.x7 mC rfl (by assumption) (by exact rfl)|exact aG.Aw mC rfl (by assumption) (by exact rfl)|exact aG.add rfl rfl (IntWalk.i64_in _ (by omega))|exact aG.not rfl|exact aG.nilCheck rfl|exact aG.eql rfl rfl|exact aG.neq rfl rfl|exact aG.gtr rfl rfl|exact aG.leq rfl rfl|exact aG.geq rfl rfl|exact aG.Au rfl|exact aG.jb rfl rfl))|(apply O.op;exact .g rfl rfl;(first|exact aG.As rfl|exact aG.lss rfl rfl|exact aG.HX wj rfl (by repeat (first|exact aR|apply zt))|exact aG.fieldAddr wj rfl|exact aG.lo mC|exact aG.JZ rfl (by repeat (first|exact aR|apply zt)) (by exact rfl) (by exact rfl)|exact aG.loadAt mC rfl (by assumption) (by exact rfl)|exact aG.x7 mC rfl (by assumption) (by exact rfl)|exact aG.Aw mC rfl (by assumption) (by exact rfl)|exact aG.add rfl rfl (IntWalk.i64_in _ (by omega))|exact aG.not rfl|exact aG.nilCheck rfl|exact aG.eql rfl rfl|exact aG.neq rfl rfl|exact aG.gtr rfl rfl|exact aG.leq rfl rfl|exact aG.geq rfl rfl|exact aG.Au rfl|exact aG.jb rfl rfl))|(apply O.bB;exact rfl;(first|exact kn.bp mC rfl rfl (by first|rfl|assumption) (by repeat (first|exact aR|apply zt)) (by first|(simp;done)|(simp [Value.cells];done))|exact kn.c9 (by kernel_rfl) rfl rfl rfl rfl (by repeat (first|exact aR|apply zt)) (by first|(simp;done)|(simp [Value.cells];done))))|(apply aJ.quiet;exact .p rfl;exact rfl;(intro _;first|exact aG.fieldAddr wj rfl|exact aG.loadAt mC rfl (by assumption) (by exact rfl)|exact aG.x7 mC rfl (by assumption) (by exact rfl)|exact aG.Aw mC rfl (by assumption) (by exact rfl)|exact aG.As rfl|exact aG.lss rfl rfl|exact aG.not rfl|exact aG.nilCheck rfl|exact aG.eql rfl rfl|exact aG.neq rfl rfl|exact aG.gtr rfl rfl|exact aG.leq rfl rfl|exact aG.geq rfl rfl|exact aG.add rfl rfl (IntWalk.i64_in _ (by omega))|exact aG.sub rfl rfl (IntWalk.i64_in _ (by omega))|exact aG.Au rfl))|(apply aJ.quiet;exact .g rfl rfl;exact rfl;(intro _;first|exact aG.fieldAddr wj rfl|exact aG.loadAt mC rfl (by assumption) (by exact rfl)|exact aG.x7 mC rfl (by assumption) (by exact rfl)|exact aG.Aw mC rfl (by assumption) (by exact rfl)|exact aG.As rfl|exact aG.lss rfl rfl|exact aG.not rfl|exact aG.nilCheck rfl|exact aG.eql rfl rfl|exact aG.neq rfl rfl|exact aG.gtr rfl rfl|exact aG.leq rfl rfl|exact aG.geq rfl rfl|exact aG.add rfl rfl (IntWalk.i64_in _ (by omega))|exact aG.sub rfl rfl (IntWalk.i64_in _ (by omega))|exact aG.Au rfl)))))):A:=f.run h
class wv (b:Bool) (p q:outParam Prop):Prop where
 t:b=true→p
 f:b=false→q
instance (priority:=high) {p:Prop} [Decidable p]:wv (decide p) p (¬p):=⟨of_decide_eq_true,of_decide_eq_false⟩
instance (priority:=low) {b:Bool}:wv b (b=true) (b=false):=⟨id,id⟩
section
variable {ro:Option Nat} {P:Program} {fn:Func} {n:Nat} {R:Ending→World→Prop} {k:List Item} {σ:List (Nat × Value)} {D:List Deferred} {g:bn} {U ζ:List az} {ops:Array Oper} {i d:Nat} {l:List Nat} {x:Operand}
theorem S.cd {c:Operand} {x y:Code} {b:Bool} {p q:Prop} [sK:wv b p q] (hc:aA σ c=some (.bool b)) (ht:p→S ro P fn n R (.code x::k) σ D g U) (hf:q→S ro P fn n R (.code y::k) σ D g U):S ro P fn n R (.code (.cond c x y)::k) σ D g U :=
 S.b_ hc (fun h=>ht (sK.t h)) fun h=>hf (sK.f h)
theorem O.v0 {f:FuncId} {xs:Array Operand} {ts:Array TypeId} {bH:List Value} {V:Value} {first cap:Array Value} (ho:bJ ops i n σ d (.call ⟨.value x,xs,ts⟩)) (hx:aA σ x=some (.func (.func f) first cap)) (hc:dG P f=true)
  (hv:dX σ xs.toList=some bH) {args:Array Value} (hargs:first++bH.toArray++cap=args) (con:ay P f args g.h [] (aL fun v U=>v=V∧U=[]))
  (h:O ro P fn n R ops l k ((d,V)::σ) D g U):O ro P fn n R ops (i::l) k σ D g U:=O.aC ho hx hc hv hargs con fun _ _ ⟨e1,e2⟩=>by subst e1 e2;exact h
theorem O.abC {f:FuncId} {xs:Array Operand} {ts:Array TypeId} {bH:List Value} {V:Value} {bs:List az} {first cap:Array Value} {A:az} (ho:bJ ops i n σ d (.call ⟨.value x,xs,ts⟩)) (hx:aA σ x=some (.func (.func f) first cap)) (hc:dG P f=true)
  (hv:dX σ xs.toList=some bH) {args:Array Value} (hargs:first++bH.toArray++cap=args) (hs:bg U A ζ) (con:ay P f args g.h [A] (aL fun v U=>v=V∧U=bs))
  (h:O ro P fn n R ops l k ((d,V)::σ) D g (bs++ζ)):O ro P fn n R ops (i::l) k σ D g U:=O.bM ho hx hc hv hargs hs con fun _ _ ⟨e1,e2⟩=>by subst e1 e2;exact h
theorem af.v0 {f:FuncId} {xs:Array Operand} {ts:Array TypeId} {bH:List Value} {V:Value} {first cap:Array Value} (ho:bJ ops i n σ d (.call ⟨.value x,xs,ts⟩)) (hd:eH ops [i] l=true) (hx:aA σ x=some (.func (.func f) first cap)) (hc:dG P f=true)
  (hv:dX σ xs.toList=some bH) {args:Array Value} (hargs:first++bH.toArray++cap=args) (con:ay P f args g.h [] (aL fun v U=>v=V∧U=[]))
  (h:af P fn n R ops k D g l ((d,V)::σ) U):af P fn n R ops k D g (i::l) σ U:=af.aC ho hd hx hc hv hargs con fun _ _ ⟨e1,e2⟩=>by subst e1 e2;exact h
variable {t e:TypeId} {y:Operand} {v:Value} {kd:IntKind}
class Mk (P:Program) (e:TypeId) (k:outParam Nat):Prop where h:(P.info? e).map (·.size)=some k
theorem BC {k:Nat} [i:Mk P e k]:(P.info? e).map (·.size)=some k:=i.h
theorem O.Sk {α:Type} {T:ag α} {xs:List α} {i d j:Nat} {cq:Int} (hs:aj T g.h v xs) (ho:bJ ops i n σ d (.indexAddr t x y):=by first|exact .p rfl|exact .g rfl rfl) (ht:P.underlying t=some (.slice e):=by exact yQ) (he:(P.info? e).map (·.size)=some T.k:=by exact BC) (hx:aA σ x=some v:=by exact rfl) (hy:aA σ y=some (.int kd cq):=by exact rfl) (dZ:cq=(j:Int):=by exact rfl)
  (gz:0<T.k:=by decide) (hm:j<xs.length:=by first|omega|(simp;done)|(simp;omega)|decide) (h:∀ p cs,At g.h p cs→T.rel g.h cs xs[j]→O ro P fn n R ops l k ((d,.pointer (some p))::σ) D g U):O ro P fn n R ops (i::l) k σ D g U:=O.idx' ho ht he hx hy dZ hs gz hm h
theorem af.Sk {α:Type} {T:ag α} {xs:List α} {i d j:Nat} {cq:Int} (hs:aj T g.h v xs) (ho:bJ ops i n σ d (.indexAddr t x y):=by first|exact .p rfl|exact .g rfl rfl) (ht:P.underlying t=some (.slice e):=by exact yQ) (he:(P.info? e).map (·.size)=some T.k:=by exact BC) (hx:aA σ x=some v:=by exact rfl) (hy:aA σ y=some (.int kd cq):=by exact rfl) (dZ:cq=(j:Int):=by exact rfl)
  (gz:0<T.k:=by decide) (hm:j<xs.length:=by first|omega|(simp;done)|(simp;omega)|decide) (h:∀ p cs,At g.h p cs→T.rel g.h cs xs[j]→af P fn n R ops k D g l ((d,.pointer (some p))::σ) U):af P fn n R ops k D g (i::l) σ U:=af.idx' ho ht he hx hy dZ hs gz hm h
theorem O.Sj {α:Type} {T:ag α} {xs:List α} {r:Fr} {i d j:Nat} {cq:Int} (hs:aj T r v xs) (hr:r.sub g.h) (ho:bJ ops i n σ d (.indexAddr t x y):=by first|exact .p rfl|exact .g rfl rfl) (ht:P.underlying t=some (.slice e):=by exact yQ) (he:(P.info? e).map (·.size)=some T.k:=by exact BC) (hx:aA σ x=some v:=by exact rfl) (hy:aA σ y=some (.int kd cq):=by exact rfl) (dZ:cq=(j:Int):=by exact rfl)
  (gz:0<T.k:=by decide) (hm:j<xs.length:=by first|omega|(simp;done)|(simp;omega)|decide) (h:∀ p cs,At g.h p cs→T.rel r cs xs[j]→O ro P fn n R ops l k ((d,.pointer (some p))::σ) D g U):O ro P fn n R ops (i::l) k σ D g U:=O.xU ho ht he hx hy dZ hs hr gz hm h
theorem af.Sj {α:Type} {T:ag α} {xs:List α} {r:Fr} {i d j:Nat} {cq:Int} (hs:aj T r v xs) (hr:r.sub g.h) (ho:bJ ops i n σ d (.indexAddr t x y):=by first|exact .p rfl|exact .g rfl rfl) (ht:P.underlying t=some (.slice e):=by exact yQ) (he:(P.info? e).map (·.size)=some T.k:=by exact BC) (hx:aA σ x=some v:=by exact rfl) (hy:aA σ y=some (.int kd cq):=by exact rfl) (dZ:cq=(j:Int):=by exact rfl)
  (gz:0<T.k:=by decide) (hm:j<xs.length:=by first|omega|(simp;done)|(simp;omega)|decide) (h:∀ p cs,At g.h p cs→T.rel r cs xs[j]→af P fn n R ops k D g l ((d,.pointer (some p))::σ) U):af P fn n R ops k D g (i::l) σ U:=af.xU ho ht he hx hy dZ hs hr gz hm h
theorem abP {α:Type} {T:ag α} {h:Fr} {v:Value} {xs:List α} (q:aj T h v xs:=by first|assumption|exact aj.mono hg (by assumption)|exact aj.left (by assumption)|exact aj.left (aj.mono hg (by assumption))):aj T h v xs:=q
theorem ab4 {σ' σ:List (Nat × Value)} (h:Sub σ' σ:=by repeat (first|exact Sub.nil|refine Sub.cons rfl ?_)):Sub σ' σ:=h
theorem ay.o {f:FuncId} {args:Array Value} {r:Fr} {Post:Ending→List az→Prop} {c:Code} {vs:List Value} (hf:P.funcs[f]?=some fn) (h:∀ g:bn,r.sub g.h→∀ R:Ending→World→Prop,(∀ e ax w',Post e ax →Holds w' g ax →R e w')→S none P fn n R [.code c] (slots vs 0) [] g U)
  (ha:args=vs.toArray:=by exact rfl) (hb:fn.body=some c:=by exact rfl) (hn:fn.ntmps=n:=by exact rfl) (hle:Nat.ble vs.length n=true:=by exact rfl):ay P f args r U Post:=ay.of vs ha hf hb hn hle h
theorem O.cs {l:List Nat} {b:Bool} {p q:Prop} (t:Nat) [sK:wv b p q] (hl:look σ t=some (.bool b)) (ht:p→O ro P fn n R ops l k ((t,.bool true)::σ) D g U) (hf:q→O ro P fn n R ops l k ((t,.bool false)::σ) D g U):O ro P fn n R ops l k σ D g U:=O.dA t hl (fun h=>ht (sK.t h)) fun h=>hf (sK.f h)
theorem af.cs {l:List Nat} {b:Bool} {p q:Prop} (t:Nat) [sK:wv b p q] (hl:look σ t=some (.bool b)) (ht:p→af P fn n R ops k D g l ((t,.bool true)::σ) U) (hf:q→af P fn n R ops k D g l ((t,.bool false)::σ) U):af P fn n R ops k D g l σ U:=af.dA t hl (fun h=>ht (sK.t h)) fun h=>hf (sK.f h)
end
theorem abW {p:Prop} [Decidable p] (h:¬p):decide p=false:=decide_eq_false h
theorem zdt {p:Prop} [Decidable p] (h:p):decide p=true:=decide_eq_true h
theorem ab0 {α:Type} {as bs:List α}:(as++bs).length=as.length+bs.length:=List.length_append
theorem abY {a b c:Fr} (h:a.sub b) (k:b.sub c):a.sub c:=Fr.aI h k
theorem ab1 {α:Type} {a:α} {as:List α}:(a::as).length=as.length+1:=List.length_cons
theorem ab3 {α:Type} {i:Nat} {as:List α}:(as.take i).length=min i as.length:=List.length_take
theorem ab2 {α:Type}:([]:List α).length=0:=List.length_nil
theorem abX {α:Type} {l:List α} {L:List (List α)}:(l::L).flatten=l++L.flatten:=List.flatten_cons
theorem abV {α:Type} (as bs cs:List α):as++bs++cs=as++(bs++cs):=List.append_assoc as bs cs
theorem abZ {α:Type} {as bs:List α} {i:Nat} (h:i<as.length) {h' :i<(as++bs).length}:(as++bs)[i]=as[i]:=List.getElem_append_left h
theorem ab5 {α:Type} {l:List α} {i:Nat} (h:i<l.length):l.take (i+1)=l.take i++[l[i]]:=List.take_succ_eq_append_getElem h
theorem ah {p:Prop} (h:p:=by omega):p:=h
theorem aa {p:Prop} (h:p:=by kernel_rfl):p:=h
theorem ai {p:Prop} (h:p:=by repeat (first|exact aR|apply zt)):p:=h
theorem zE {p:Prop} (h:p:=by assumption):p:=h
theorem aB {p:Prop} (h:p:=by decide):p:=h
theorem aK {p:Prop} (h:p:=by rfl):p:=h
theorem aW {p:Prop} (h:p:=by repeat (first|exact Yx|(apply Yw;focus (repeat (first|exact aR|apply zt))))):p:=h
theorem aX {p:Prop} (h:p:=by first|(simp;done)|(simp [Value.cells];done)):p:=h
theorem bt {p:Prop} (h:p:=by first|rfl|assumption):p:=h
theorem bD {p:Prop} (h:p:=by first|omega|(simp;done)|(simp;omega)|decide):p:=h
theorem abQ {p:Prop} (h:p:=by first|assumption|exact aj.mono hg (by assumption)|exact aj.left (by assumption)|exact aj.left (aj.mono hg (by assumption))):p:=h
theorem bL {p:Prop} (h:p:=by simp):p:=h
theorem b9 {p:Prop} (h:p:=by simp;omega):p:=h
theorem abR {p:Prop} (h:p:=by exact decide_eq_false (by omega)):p:=h
theorem abS {p:Prop} (h:p:=by exact decide_eq_true (by omega)):p:=h
theorem jf {p:Prop} (h:p:=by repeat (first|exact aS|exact aU|(apply aT;focus (repeat (first|exact aR|apply zt)))|apply aV)):p:=h
theorem nh {p:Prop} (h:p:=by simp;rfl):p:=h
theorem oL {p:Prop} (h:p:=by first|omega|(simp;done)|(simp;omega)):p:=h
theorem qt {p:Prop} (h:p:=by simp;exact ⟨rfl,rfl⟩):p:=h
theorem abT {p:Prop} (h:p:=by exact decide_eq_true (by simp;omega)):p:=h
theorem sS {p:Prop} (h:p:=by simp [Value.cells]):p:=h
theorem abU {p:Prop} (h:p:=by exact decide_eq_false (by simp;omega)):p:=h
theorem wi {p:Prop} (h:p:=by first|rfl|omega):p:=h
theorem yP {p:Prop} (h:p:=by first|(simp;done)|(simp;omega)):p:=h
end Go.Sp
end
end
