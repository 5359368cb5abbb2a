/- Texts of this proof, one behind the other. -/
import Derived.Test.YtojafegjlahajaaGreatDoorQSpOpen
import Derived.Laws.Strings2
import Derived.Laws.IdiomRangeMap
import Derived.Laws.Externs
import Derived.KernelRfl
section
/- Texts of this proof, one behind the other. -/
section
/- Texts of this proof, one behind the other. -/
section
/- Texts of this proof. -/
namespace Go.Sp
structure Gp (α:Type) where
 rp:Rp α
 own:List Value→α→SProp
 rel:∀ {cs:List Value} {a:α} {m:Fr},own cs a m→rp.rel m cs a
theorem All2.len2 {α β:Type} {R:β→α→Prop}:∀ {bs:List β} {as:List α},All2 R bs as→bs.length=as.length
 |[],[],_=>rfl
 |[],_::_,h=>h.elim
 |_::_,[],h=>h.elim
 |_::_,_::_,h=>congrArg Nat.succ (All2.len2 h.2)
theorem all2_cells {k:Nat} {h:Fr}:∀ {cs:List (List Value)} {ds:List (List Value)},All2 ((Rp.cells k).rel h) cs ds→cs=ds
 |[],[],_=>rfl
 |[],_::_,h=>h.elim
 |_::_,[],h=>h.elim
 |_::_,_::_,h=>by rw [h.1.1,all2_cells h.2]
theorem Arr.ofCells {α:Type} {T:Rp α} {k:Nat} {h:Fr} {v:Value} {css:List (List Value)} {xs:List α} (h1:Arr (Rp.cells k) h v css) (h2:All2 (T.rel h) css xs) (hk:k=T.k):Arr T h v xs:=by
 obtain ⟨ds,p,q⟩:=h1;obtain rfl:=all2_cells p;subst hk;exact ⟨ds,h2,by rw [← h2.len2];exact q⟩
def ListP {α:Type} (G:Gp α) (e:TypeId) (v:Value) (xs:List α):SProp:=fun m=>∃ css,Sat [OwnP (Rp.cells G.rp.k) e v css,EachP G.own css xs] m
theorem ListP.arr {α:Type} {G:Gp α} {e:TypeId} {v:Value} {xs:List α} {m:Fr}:ListP G e v xs m→Arr G.rp m v xs:=by
 rintro ⟨css,h1,h2,_,s1,s2,⟨ds,p,q⟩,h3,_,_,t,_,y,_⟩;have hd:=all2_cells p;have hy:=EachP.all2 (R:=fun cs a=>G.rp.rel m cs a) (k:=m) (fun b a m' z s=>G.rp.mono s (G.rel z)) y (Fr.sub_trans t s2);refine ⟨css,hy,?_⟩;rw [← hy.len2];subst hd;exact (q.sl).mono s1
def Gp.pure {α:Type} (T:Rp α):Gp α:={ rp:=T,own:=fun cs a _=>T.rel Fr.emp cs a,rel:=fun h=>T.mono (Fr.emp_sub _) h }
def Gp.row {α:Type} (T:Rp α) (e:TypeId):Gp (List α):={ rp:=Rp.slice T,own:=fun cs xs m=>∃ v,cs=[v]∧OwnP T e v xs m,rel:=fun ⟨v,h,x⟩=>⟨v,h,x.arr⟩ }
def Gp.list {α:Type} (G:Gp α) (e:TypeId):Gp (List α):={ rp:=Rp.slice G.rp,own:=fun cs xs m=>∃ v,cs=[v]∧ListP G e v xs m,rel:=fun ⟨v,h,x⟩=>⟨v,h,x.arr⟩ }
def Gp.prod {α β:Type} (A:Gp α) (B:Gp β):Gp (α × β) :=
 {rp:=Rp.prod A.rp B.rp,own:=fun cs x m=>∃ c d,cs=c++d∧Sat [A.own c x.1,B.own d x.2] m
  rel:=fun ⟨c,d,h,z⟩=>by
   obtain ⟨h1,h2,_,s1,s2,p,q⟩:=Sat.two.1 z;obtain ⟨h3,t,u⟩:=q;exact ⟨c,d,h,A.rp.mono s1 (A.rel p),B.rp.mono (Fr.sub_trans t s2) (B.rel u)⟩ }
def Gp.unit:Gp Unit:={ rp:=Rp.unit,own:=fun cs _ _=>cs=[],rel:=fun h=>h }
theorem Gp.own_pure_prod {α β:Type} {T:Rp α} {B:Gp β} {c d:List Value} {x:α} {y:β} {m:Fr} (h:T.rel Fr.emp c x) (h2:B.own d y m):(Gp.prod (Gp.pure T) B).own (c++d) (x,y) m :=
 ⟨c,d,rfl,Fr.emp,m,Fr.emp_disj _,Fr.emp_sub _,Fr.sub_refl _,h,m,Fr.emp,Fr.disj_symm (Fr.emp_disj _),Fr.sub_refl _,Fr.emp_sub _,h2,trivial⟩
section
variable {ro:Option Nat} {P:Program} {fn:Func} {n:Nat} {R:Ending→World→Prop} {k:List Item} {σ:List (Nat × Value)} {D:List Deferred} {g:Gr} {η ζ θ:List SProp} {ops:Array Oper} {L:List Nat} {todo:List Item}
 {α:Type} {G:Gp α} {e:TypeId} {v:Value} {xs:List α}
theorem sat_listNil {m:Fr} (h:Sat η m):Sat (ListP G e (.slice none 0 0) []::η) m:=by
 refine ⟨Fr.emp,m,Fr.emp_disj _,Fr.emp_sub _,Fr.sub_refl _,⟨[],Fr.emp,Fr.emp,Fr.emp_disj _,Fr.emp_sub _,Fr.emp_sub _,?_,Fr.emp,Fr.emp,Fr.emp_disj _,Fr.emp_sub _,Fr.emp_sub _,trivial,trivial⟩,h⟩;exact ownP_nil _
theorem S.listNil (G:Gp α) (e:TypeId) (h:S ro P fn n R todo σ D g (ListP G e (.slice none 0 0) []::η)):S ro P fn n R todo σ D g η:=S.imp' (fun _=>sat_listNil) h
theorem S.listOpen {k' :Nat} (hk:G.rp.k=k') (s:Sel η (ListP G e v xs) ζ) (h:∀ css,css.length=xs.length→S ro P fn n R todo σ D g (OwnP (Rp.cells k') e v css::EachP G.own css xs::ζ)):S ro P fn n R todo σ D g η:=by
 subst hk;exact S.sel s (S.exi (A:=fun css m=>Sat [OwnP (Rp.cells G.rp.k) e v css,EachP G.own css xs] m) fun css =>
  S.entail (fun _ x=>x) (S.factS (B:=EachP G.own css xs) (.there .here) (p:=css.length=xs.length) (fun _ x=>x.len) fun hl=>h css hl))
theorem sat_list {k' :Nat} (hk:G.rp.k=k') {css:List (List Value)} (s1:Sel η (OwnP (Rp.cells k') e v css) ζ) (s2:Sel ζ (EachP G.own css xs) θ) {m:Fr} (h:Sat η m):Sat (ListP G e v xs::θ) m:=by
 subst hk;exact Sat.join2 (A:=OwnP (Rp.cells G.rp.k) e v css) (B:=EachP G.own css xs) (fun _ x=>⟨css,x⟩) (Sat.cons_imp (fun _ y=>y) (fun _ y=>Sat.perm s2.perm y) (Sat.perm s1.perm h))
theorem S.listShut {k' :Nat} (hk:G.rp.k=k') {css:List (List Value)} (s1:Sel η (OwnP (Rp.cells k') e v css) ζ) (s2:Sel ζ (EachP G.own css xs) θ) (h:S ro P fn n R todo σ D g (ListP G e v xs::θ)):S ro P fn n R todo σ D g η :=
 S.imp' (fun _=>sat_list hk s1 s2) h
theorem S.listPut {k' :Nat} (hk:G.rp.k=k') {css:List (List Value)} {cs:List Value} {a:α} {η₁ η₂:List SProp} (s1:Sel η (OwnP (Rp.cells k') e v (css++[cs])) ζ) (s2:Sel ζ (EachP G.own css xs) η₁) (s3:Sel η₁ (G.own cs a) η₂) (h:S ro P fn n R todo σ D g (ListP G e v (xs++[a])::η₂)):S ro P fn n R todo σ D g η :=
 S.sel s1 (S.each (.there s2) (.there s3) (S.listShut hk (.there .here) .here h))
theorem S.frzG {T:Rp α} (hT:G.rp=T) (s:Sel η (ListP G e v xs) ζ) (h:∀ g' :Gr,g.h.sub g'.h→(∀ w ζ,Holds w g' ζ→Holds w g ζ)→Arr T g'.h v xs→S ro P fn n R todo σ D g' ζ):S ro P fn n R todo σ D g η :=
 S.frz s fun g' h1 h2 ⟨_,h3,h4⟩=>h g' h1 h2 (hT ▸ h3.arr.mono h4)
end
theorem OD.loadL {P:Program} {fn:Func} {n:Nat} {R:Ending→World→Prop} {k:List Item} {σ:List (Nat × Value)} {D:List Deferred} {g:Gr} {η:List SProp} {ops:Array Oper} {l:List Nat} {i d:Nat} {t:TypeId} {x:Operand} {v:Value}
  (ho:Fires ops i n σ d (.load t x)) (hd:descOk ops [i] l=true) (hdo:∀ ζ,Does P (.load t x) σ g (η++ζ) v (η++ζ)) (h:OD P fn n R ops k D g l ((d,v)::σ) η):OD P fn n R ops k D g (i::l) σ η :=
 .loudE (K:=fun v' η' =>v' =v∧η' =η) ho rfl hd (fun ζ o ρ w h1 h2 h3=>let ⟨w',a,b⟩:=hdo ζ o ρ w h1 h2 h3;⟨v,w',η++ζ,⟨η,⟨rfl,rfl⟩,rfl⟩,a,b⟩) (by rintro _ _ ⟨rfl,rfl⟩;exact h)
theorem Con.post {P:Program} {f:FuncId} {args:Array Value} {r:Fr} {η:List SProp} {Post Post' :Ending→List SProp→Prop} (h:Con P f args r η Post) (hp:∀ e η',Post e η' →∀ w g,Holds w g η' →∃ η'',Post' e η'' ∧Holds w g η''):Con P f args r η Post' :=
 fun g hr w hw=>(h g hr w hw).mono fun e w' ⟨η',x,y⟩=>hp e η' x w' g y
theorem Ret.imp {K K' :Value→List SProp→Prop} (h:∀ v η,K v η→K' v η):∀ e η,Ret K e η→Ret K' e η
 |.returned v,η,x=>h v η x
 |.panicked _,_,x=>x.elim
 |.outgrown,_,x=>x.elim
theorem Sat.unpack {ws ζ:List SProp} {A:SProp} (hA:∀ m,A m→Sat ws m) {m:Fr} (h:Sat (A::ζ) m):Sat (ws++ζ) m:=by
 obtain ⟨_,_,d,s1,s2,x,y⟩:=h;exact Sat.mono (Fr.add_sub s1 s2) (Sat.append d (hA _ x) y)
theorem Holds.exi {w:World} {g:Gr} {ζ:List SProp} {α:Type} {A:α→SProp} (h:Holds w g ((fun m=>∃ x,A x m)::ζ)):∃ x,Holds w g (A x::ζ):=by
 obtain ⟨p,q,rr,k,d,s1,s2,k1,k2,kd,t1,t2,⟨x,hx⟩,y⟩:=h;exact ⟨x,p,q,rr,k,d,s1,s2,k1,k2,kd,t1,t2,hx,y⟩
end Go.Sp
end
section
/- Texts of this proof, one behind the other. -/
section
/- Texts of this proof. -/
namespace Go.Sp
section
variable {ro:Option Nat} {P:Program} {fn:Func} {n:Nat} {R:Ending→World→Prop} {k:List Item} {σ:List (Nat × Value)} {D:List Deferred} {g:Gr} {η:List SProp} {ops:Array Oper} {i d:Nat} {l:List Nat} {t:TypeId} {x:Operand}
theorem str_extract (xs:List UInt8) (a b:Nat):(str xs).extract a b=str ((xs.take b).drop a):=by
 have:=ByteArray.extract_mk xs a b;unfold str;rw [this,List.drop_take]
theorem str_does {xs:List UInt8} {lo hi:Option Operand} {a b:Nat} {kl kh:IntKind} (ht:P.underlying t=some .string) (hx:ev σ x=some (.string (str xs)))
  (hlo:∀ y,lo=some y→ev σ y=some (.int kl (a:Int))) (hlo' :lo=none→a=0) (hhi:∀ y,hi=some y→ev σ y=some (.int kh (b:Int))) (hhi' :hi=none→b=xs.length)
  (hab:a≤b) (hb:b≤xs.length):∀ η,Does P (.slice t x lo hi none) σ g η (.string (str ((xs.take b).drop a))) η:=fun η=>.run fun o ρ w ho hk=>by
 have hsz:=str_size xs;have e1:(a:Int)≤(b:Int):=by omega
 have hex:=str_extract xs a b
 cases lo with
 |none =>
  have:=hlo' rfl;subst this
  cases hi with
  |none=>have:=hhi' rfl;subst this;simp [execOp,ho,hk x _ hx,Instr.sliceAt,run_underlying ht,Instr.slice,Instr.sliceBounds,hsz,hex]
  |some y =>
   simp [execOp,ho,hk x _ hx,hk y _ (hhi y rfl),Instr.sliceAt,run_underlying ht,Instr.slice,Instr.sliceBounds,Instr.sliceBound,asIntOf,hsz,hb,hex]
 |some z =>
  cases hi with
  |none=>have:=hhi' rfl;subst this;simp [execOp,ho,hk x _ hx,hk z _ (hlo z rfl),Instr.sliceAt,run_underlying ht,Instr.slice,Instr.sliceBounds,Instr.sliceBound,asIntOf,hsz,hab,hex]
  |some y =>
   simp [execOp,ho,hk x _ hx,hk z _ (hlo z rfl),hk y _ (hhi y rfl),Instr.sliceAt,run_underlying ht,Instr.slice,Instr.sliceBounds,Instr.sliceBound,asIntOf,hsz,hab,hb,hex]
theorem O.strTo {xs:List UInt8} {kb:IntKind} {zb:Int} {b:Nat} {y:Operand} (ho:Fires ops i n σ d (.slice t x none (some y) none)) (ht:P.underlying t=some .string) (hx:ev σ x=some (.string (str xs))) (hy:ev σ y=some (.int kb zb)) (hz:zb=(b:Int)) (hb:b≤xs.length)
  (h:O ro P fn n R ops l k ((d,.string (str (xs.take b)))::σ) D g η):O ro P fn n R ops (i::l) k σ D g η:=by
 subst hz;have:=str_does (P:=P) (σ:=σ) (g:=g) (kl:=.i64) (kh:=kb) (a:=0) (b:=b) ht hx (lo:=none) (hi:=some y) (fun _ h=>nomatch h) (fun _=>rfl) (fun _ h=>by cases h;exact hy) (fun h=>nomatch h) (Nat.zero_le _) hb η;exact O.op ho this h
theorem O.strFrom {xs:List UInt8} {ka:IntKind} {za:Int} {a:Nat} {y:Operand} (ho:Fires ops i n σ d (.slice t x (some y) none none)) (ht:P.underlying t=some .string) (hx:ev σ x=some (.string (str xs))) (hy:ev σ y=some (.int ka za)) (hz:za=(a:Int)) (ha:a≤xs.length)
  (h:O ro P fn n R ops l k ((d,.string (str (xs.drop a)))::σ) D g η):O ro P fn n R ops (i::l) k σ D g η:=by
 subst hz;have:=str_does (P:=P) (σ:=σ) (g:=g) (kl:=ka) (kh:=.i64) (a:=a) (b:=xs.length) ht hx (lo:=some y) (hi:=none) (fun _ h=>by cases h;exact hy) (fun h=>nomatch h) (fun _ h=>nomatch h) (fun _=>rfl) ha (Nat.le_refl _) η;rw [List.take_length] at this;exact O.op ho this h
end
end Go.Sp
end
section
/- Texts of this proof, one behind the other. -/
section
/- Texts of this proof. -/
namespace Go.Sp
section marks
variable {α:Type} (f:Int→Int→α)
def mkL (k n:Nat):List α:=(List.range n).map fun (i:Nat)=>f (k:Int) (i:Int)
@[simp] theorem mkL_length (k n:Nat):(mkL f k n).length=n:=by simp [mkL]
def mkX (k n i:Nat):List α:=(List.range i).map fun (q:Nat)=>f (k:Int) ((n:Int)+(q:Int))
@[simp] theorem mkX_length (k n i:Nat):(mkX f k n i).length=i:=by simp [mkX]
def mkM (j n i:Nat):List α:=(List.range i).map fun (q:Nat)=>f ((j:Int)+(n:Int)) (q:Int)
@[simp] theorem mkM_length (j n i:Nat):(mkM f j n i).length=i:=by simp [mkM]
def mkAll (ns:List Nat) (k:Nat):List (List α):=(List.range k).map fun j=>mkL f j (ns[j]?.getD 0)
@[simp] theorem mkAll_length (ns:List Nat) (k:Nat):(mkAll f ns k).length=k:=by simp [mkAll]
end marks
section
variable {ro:Option Nat} {P:Program} {fn:Func} {n:Nat} {R:Ending→World→Prop} {todo:List Item} {σ:List (Nat × Value)} {D:List Deferred} {g:Gr} {η ζ θ ξ:List SProp} {α:Type} {T:Rp α} {K:Nat} {e:TypeId} {v u:Value} {xs ys:List α}
end
theorem EachP.mono {β α:Type} {A:β→α→SProp} {m k:Fr} (s:m.sub k):∀ {bs:List β} {as:List α},EachP A bs as m→EachP A bs as k
 |[],[],_=>trivial
 |[],_::_,h=>h.elim
 |_::_,[],h=>h.elim
 |_::_,_::_,h=>Sat.mono s h
theorem EachP.app {β α:Type} {A:β→α→SProp}:∀ {bs:List β} {as:List α} {bs' :List β} {as' :List α} {m:Fr},Sat [EachP A bs as,EachP A bs' as'] m→EachP A (bs++bs') (as++as') m
 |[],[],bs',as',m,h=>by
  obtain ⟨_,_,_,_,s2,_,h3,_,_,t,_,y,_⟩:=h;exact EachP.mono (Fr.sub_trans t s2) y
 |[],_::_,_,_,_,h=>by obtain ⟨_,_,_,_,_,x,_⟩:=h;exact x.elim
 |_::_,[],_,_,_,h=>by obtain ⟨_,_,_,_,_,x,_⟩:=h;exact x.elim
 |b::bs,a::as,bs',as',m,h=>by
  obtain ⟨h1,h2,d,s1,s2,x,y⟩:=h;have x' :Sat [A b a,EachP A bs as] h1:=x;obtain ⟨k1,k2,kd,t1,t2,p,k3,k4,kd',u1,u2,q,_⟩:=x'
  show Sat [A b a,EachP A (bs++bs') (as++as')] m
  have d1:k3.disj h2:=Fr.disj_sub d (Fr.sub_trans u1 t2) (Fr.sub_refl _);refine ⟨k1,k3.add h2,Fr.disj_add_right (Fr.disj_sub kd (Fr.sub_refl _) u1) (Fr.disj_sub d t1 (Fr.sub_refl _)),Fr.sub_trans t1 s1,Fr.add_sub (Fr.sub_trans (Fr.sub_trans u1 t2) s1) s2,p,k3.add h2,Fr.emp,Fr.disj_symm (Fr.emp_disj _),Fr.sub_refl _,Fr.emp_sub _,?_,trivial⟩;exact EachP.app ⟨k3,h2,d1,Fr.sub_add_left _ _,Fr.sub_add_right d1,q,y⟩
end Go.Sp
end
section
/- Texts of this proof. -/
namespace Go.Sp
theorem Rp.rel.mono {α:Type} {T:Rp α} {h k:Fr} {cs:List Value} {x:α} (r:T.rel h cs x) (s:h.sub k):T.rel k cs x:=T.mono s r
def mks {α:Type} (f:Int→α) (n:Nat):List α:=(List.range n).map fun (i:Nat)=>f (i:Int)
@[simp] theorem mks_length {α:Type} (f:Int→α) (n:Nat):(mks f n).length=n:=by simp [mks]
theorem Gp.mkP {α β:Type} {T:Rp α} {B:Gp β} {c d:List Value} {x:α} {y:β} {W:List SProp} (h:T.rel Fr.emp c x) (hB:∀ m,Sat W m→B.own d y m):∀ m,Sat W m→(Gp.prod (Gp.pure T) B).own (c++d) (x,y) m:=fun m s=>Gp.own_pure_prod h (hB m s)
theorem Gp.mkW {α β:Type} {A:Gp α} {B:Gp β} {c d:List Value} {x:α} {y:β} {w:SProp} {W:List SProp} (hA:∀ m,w m→A.own c x m) (hB:∀ m,Sat W m→B.own d y m):∀ m,Sat (w::W) m→(Gp.prod A B).own (c++d) (x,y) m :=
 fun _ ⟨k1,k2,dj,s1,s2,o,st⟩=>⟨c,d,rfl,k1,k2,dj,s1,s2,hA _ o,k2,Fr.emp,Fr.disj_symm (Fr.emp_disj _),Fr.sub_refl _,Fr.emp_sub _,hB _ st,trivial⟩
end Go.Sp
end
end
end
end
section
/- Texts of this proof, one behind the other. -/
section
/- Texts of this proof. -/
set_option linter.unusedVariables false
namespace Go.Sp
structure Tys where
 u8:TypeId
 int:TypeId
 bytes:TypeId
 dot:TypeId
 recd:TypeId
 leaf:TypeId
 stub:TypeId
 node:TypeId
 prf:TypeId
 root:TypeId
 evd:TypeId
 frm:TypeId
 held:TypeId
def byteOf (z:Int):UInt8:=UInt8.ofNat (z % 256).toNat
theorem wrapB (z:Int):Value.int .u8 (IntKind.u8.wrap z)=byteV (byteOf z):=by
 rw [byteV,wrap_u8_eq];have:((byteOf z).toNat:Int)=z % 256:=by simp [byteOf];omega
 rw [this]
def markT (k i:Int):List UInt8:=[35,byteOf k,byteOf (k.fdiv (2 ^ min (8:Int).toNat IntKind.i64.bits)),byteOf (k.fdiv (2 ^ min (16:Int).toNat IntKind.i64.bits)),47,byteOf i,byteOf (i.fdiv (2 ^ min (8:Int).toNat IntKind.i64.bits)),byteOf (i.fdiv (2 ^ min (16:Int).toNat IntKind.i64.bits))]
@[simp] theorem markT_length (k i:Int):(markT k i).length=8:=rfl
abbrev DotT:Type:=Int × Int × Unit
abbrev DotRp:Rp DotT:=Rp.prod Rp.i64 (Rp.prod Rp.i64 (Rp.unit))
theorem DotRp.open {h:Fr} {cs:List Value} {x:DotT} (r:DotRp.rel h cs x):cs=[.int .i64 x.1,.int .i64 x.2.1]∧InI64 x.1∧InI64 x.2.1:=by
 obtain ⟨c0,d0,rfl,r0,r⟩:=r;obtain ⟨c1,d1,rfl,r1,r⟩:=r;obtain rfl:d1=[]:=r;obtain ⟨rfl,h0⟩:=r0;obtain ⟨rfl,h1⟩:=r1;exact ⟨rfl,h0,h1⟩
theorem DotRp.mk {h:Fr} {x0:Int} {x1:Int} (h0:InI64 x0) (h1:InI64 x1):DotRp.rel h [.int .i64 x0,.int .i64 x1] (x0,x1,()) :=
 ⟨[.int .i64 x0],[.int .i64 x1],rfl,⟨rfl,h0⟩,⟨[.int .i64 x1],[],rfl,⟨rfl,h1⟩,rfl⟩⟩
abbrev RecT:Type:=(List UInt8) × Int × Int × (List DotT) × Bool × (List UInt8) × (List UInt8) × Unit
abbrev RecRp:Rp RecT:=Rp.prod Rp.str (Rp.prod Rp.i64 (Rp.prod Rp.i64 (Rp.prod (Rp.slice DotRp) (Rp.prod Rp.bool (Rp.prod (Rp.slice Rp.u8) (Rp.prod (Rp.slice Rp.u8) (Rp.unit)))))))
theorem RecRp.open {h:Fr} {cs:List Value} {x:RecT} (r:RecRp.rel h cs x):∃ v3 v5 v6,cs=[.string (str x.1),.int .i64 x.2.1,.int .i64 x.2.2.1,v3,.bool x.2.2.2.2.1,v5,v6]∧x.1.length≤9223372036854775807∧InI64 x.2.1∧InI64 x.2.2.1∧Arr DotRp h v3 x.2.2.2.1∧Arr Rp.u8 h v5 x.2.2.2.2.2.1∧Arr Rp.u8 h v6 x.2.2.2.2.2.2.1:=by
 obtain ⟨c0,d0,rfl,r0,r⟩:=r;obtain ⟨c1,d1,rfl,r1,r⟩:=r;obtain ⟨c2,d2,rfl,r2,r⟩:=r;obtain ⟨c3,d3,rfl,r3,r⟩:=r;obtain ⟨c4,d4,rfl,r4,r⟩:=r;obtain ⟨c5,d5,rfl,r5,r⟩:=r;obtain ⟨c6,d6,rfl,r6,r⟩:=r;obtain rfl:d6=[]:=r;obtain ⟨rfl,h0⟩:=r0;obtain ⟨rfl,h1⟩:=r1;obtain ⟨rfl,h2⟩:=r2;obtain ⟨v3,rfl,h3⟩:=r3;obtain rfl:c4=[.bool x.2.2.2.2.1]:=r4;obtain ⟨v5,rfl,h5⟩:=r5;obtain ⟨v6,rfl,h6⟩:=r6;exact ⟨v3,v5,v6,rfl,h0,h1,h2,h3,h5,h6⟩
theorem RecRp.sh {h:Fr} {cs:List Value} {x:RecT} (r:RecRp.rel h cs x):∃ a3 a5 a6 c3 c5 c6,cs=[.string (str x.1),.int .i64 x.2.1,.int .i64 x.2.2.1,.slice a3 x.2.2.2.1.length c3,.bool x.2.2.2.2.1,.slice a5 x.2.2.2.2.2.1.length c5,.slice a6 x.2.2.2.2.2.2.1.length c6]∧x.1.length≤9223372036854775807∧InI64 x.2.1∧InI64 x.2.2.1∧Arr DotRp h (.slice a3 x.2.2.2.1.length c3) x.2.2.2.1∧Arr Rp.u8 h (.slice a5 x.2.2.2.2.2.1.length c5) x.2.2.2.2.2.1∧Arr Rp.u8 h (.slice a6 x.2.2.2.2.2.2.1.length c6) x.2.2.2.2.2.2.1:=by
 obtain ⟨v3,v5,v6,rfl,h0,h1,h2,h3,h5,h6⟩:=RecRp.open r;obtain ⟨a3,c3,rfl⟩:=h3.shape;obtain ⟨a5,c5,rfl⟩:=h5.shape;obtain ⟨a6,c6,rfl⟩:=h6.shape;exact ⟨a3,a5,a6,c3,c5,c6,rfl,h0,h1,h2,h3,h5,h6⟩
theorem RecRp.mk {h:Fr} {x0:List UInt8} {x1:Int} {x2:Int} {x3:List DotT} {v3:Value} {x4:Bool} {x5:List UInt8} {v5:Value} {x6:List UInt8} {v6:Value} (h0:x0.length≤9223372036854775807) (h1:InI64 x1) (h2:InI64 x2) (h3:Arr DotRp h v3 x3) (h5:Arr Rp.u8 h v5 x5) (h6:Arr Rp.u8 h v6 x6):RecRp.rel h [.string (str x0),.int .i64 x1,.int .i64 x2,v3,.bool x4,v5,v6] (x0,x1,x2,x3,x4,x5,x6,()) :=
 ⟨[.string (str x0)],[.int .i64 x1,.int .i64 x2,v3,.bool x4,v5,v6],rfl,⟨rfl,h0⟩,⟨[.int .i64 x1],[.int .i64 x2,v3,.bool x4,v5,v6],rfl,⟨rfl,h1⟩,⟨[.int .i64 x2],[v3,.bool x4,v5,v6],rfl,⟨rfl,h2⟩,⟨[v3],[.bool x4,v5,v6],rfl,⟨v3,rfl,h3⟩,⟨[.bool x4],[v5,v6],rfl,rfl,⟨[v5],[v6],rfl,⟨v5,rfl,h5⟩,⟨[v6],[],rfl,⟨v6,rfl,h6⟩,rfl⟩⟩⟩⟩⟩⟩⟩
abbrev RecG (τ:Tys):Gp RecT:=Gp.prod (Gp.pure Rp.str) (Gp.prod (Gp.pure Rp.i64) (Gp.prod (Gp.pure Rp.i64) (Gp.prod (Gp.row DotRp τ.dot) (Gp.prod (Gp.pure Rp.bool) (Gp.prod (Gp.row Rp.u8 τ.u8) (Gp.prod (Gp.row Rp.u8 τ.u8) (Gp.unit)))))))
theorem RecG.mk {τ:Tys} {m:Fr} {x0:List UInt8} {x1:Int} {x2:Int} {x3:List DotT} {v3:Value} {x4:Bool} {x5:List UInt8} {v5:Value} {x6:List UInt8} {v6:Value} (h0:x0.length≤9223372036854775807) (h1:InI64 x1) (h2:InI64 x2) (s:Sat [OwnP DotRp τ.dot v3 x3,OwnP Rp.u8 τ.u8 v5 x5,OwnP Rp.u8 τ.u8 v6 x6] m):(Gp.prod (Gp.pure Rp.str) (Gp.prod (Gp.pure Rp.i64) (Gp.prod (Gp.pure Rp.i64) (Gp.prod (Gp.row DotRp τ.dot) (Gp.prod (Gp.pure Rp.bool) (Gp.prod (Gp.row Rp.u8 τ.u8) (Gp.prod (Gp.row Rp.u8 τ.u8) (Gp.unit)))))))).own [.string (str x0),.int .i64 x1,.int .i64 x2,v3,.bool x4,v5,v6] (x0,x1,x2,x3,x4,x5,x6,()) m :=
 Gp.mkP (T:=Rp.str) (c:=[.string (str x0)]) ⟨rfl,h0⟩ (Gp.mkP (T:=Rp.i64) (c:=[.int .i64 x1]) ⟨rfl,h1⟩<|Gp.mkP (T:=Rp.i64) (c:=[.int .i64 x2]) ⟨rfl,h2⟩<|Gp.mkW (A:=(Gp.row DotRp τ.dot)) (c:=[v3]) (fun _ o=>⟨_,rfl,o⟩)<|Gp.mkP (T:=Rp.bool) (c:=[.bool x4]) rfl<|Gp.mkW (A:=(Gp.row Rp.u8 τ.u8)) (c:=[v5]) (fun _ o=>⟨_,rfl,o⟩)<|Gp.mkW (A:=(Gp.row Rp.u8 τ.u8)) (c:=[v6]) (fun _ o=>⟨_,rfl,o⟩)<|fun _ _=>rfl) m s
abbrev LeafT:Type:=(List UInt8) × (List RecT) × Unit
abbrev LeafRp:Rp LeafT:=Rp.prod Rp.str (Rp.prod (Rp.slice RecRp) (Rp.unit))
theorem LeafRp.open {h:Fr} {cs:List Value} {x:LeafT} (r:LeafRp.rel h cs x):∃ v1,cs=[.string (str x.1),v1]∧x.1.length≤9223372036854775807∧Arr RecRp h v1 x.2.1:=by
 obtain ⟨c0,d0,rfl,r0,r⟩:=r;obtain ⟨c1,d1,rfl,r1,r⟩:=r;obtain rfl:d1=[]:=r;obtain ⟨rfl,h0⟩:=r0;obtain ⟨v1,rfl,h1⟩:=r1;exact ⟨v1,rfl,h0,h1⟩
theorem LeafRp.sh {h:Fr} {cs:List Value} {x:LeafT} (r:LeafRp.rel h cs x):∃ a1 c1,cs=[.string (str x.1),.slice a1 x.2.1.length c1]∧x.1.length≤9223372036854775807∧Arr RecRp h (.slice a1 x.2.1.length c1) x.2.1:=by
 obtain ⟨v1,rfl,h0,h1⟩:=LeafRp.open r;obtain ⟨a1,c1,rfl⟩:=h1.shape;exact ⟨a1,c1,rfl,h0,h1⟩
theorem LeafRp.mk {h:Fr} {x0:List UInt8} {x1:List RecT} {v1:Value} (h0:x0.length≤9223372036854775807) (h1:Arr RecRp h v1 x1):LeafRp.rel h [.string (str x0),v1] (x0,x1,()) :=
 ⟨[.string (str x0)],[v1],rfl,⟨rfl,h0⟩,⟨[v1],[],rfl,⟨v1,rfl,h1⟩,rfl⟩⟩
abbrev LeafG (τ:Tys):Gp LeafT:=Gp.prod (Gp.pure Rp.str) (Gp.prod (Gp.list (RecG τ) τ.recd) (Gp.unit))
theorem LeafG.mk {τ:Tys} {m:Fr} {x0:List UInt8} {x1:List RecT} {v1:Value} (h0:x0.length≤9223372036854775807) (s:Sat [ListP (RecG τ) τ.recd v1 x1] m):(Gp.prod (Gp.pure Rp.str) (Gp.prod (Gp.list (RecG τ) τ.recd) (Gp.unit))).own [.string (str x0),v1] (x0,x1,()) m :=
 Gp.mkP (T:=Rp.str) (c:=[.string (str x0)]) ⟨rfl,h0⟩ (Gp.mkW (A:=(Gp.list (RecG τ) τ.recd)) (c:=[v1]) (fun _ o=>⟨_,rfl,o⟩)<|fun _ _=>rfl) m s
abbrev StubT:Type:=(List UInt8) × (List UInt8) × Unit
abbrev NodeT:Type:=UInt8 × (List UInt8) × (List UInt8) × (List LeafT) × Unit
abbrev NodeRp:Rp NodeT:=Rp.prod Rp.u8 (Rp.prod (Rp.slice Rp.u8) (Rp.prod (Rp.slice Rp.u8) (Rp.prod (Rp.slice LeafRp) (Rp.unit))))
theorem NodeRp.open {h:Fr} {cs:List Value} {x:NodeT} (r:NodeRp.rel h cs x):∃ v1 v2 v3,cs=[byteV x.1,v1,v2,v3]∧Arr Rp.u8 h v1 x.2.1∧Arr Rp.u8 h v2 x.2.2.1∧Arr LeafRp h v3 x.2.2.2.1:=by
 obtain ⟨c0,d0,rfl,r0,r⟩:=r;obtain ⟨c1,d1,rfl,r1,r⟩:=r;obtain ⟨c2,d2,rfl,r2,r⟩:=r;obtain ⟨c3,d3,rfl,r3,r⟩:=r;obtain rfl:d3=[]:=r;obtain rfl:c0=[byteV x.1]:=r0;obtain ⟨v1,rfl,h1⟩:=r1;obtain ⟨v2,rfl,h2⟩:=r2;obtain ⟨v3,rfl,h3⟩:=r3;exact ⟨v1,v2,v3,rfl,h1,h2,h3⟩
theorem NodeRp.sh {h:Fr} {cs:List Value} {x:NodeT} (r:NodeRp.rel h cs x):∃ a1 a2 a3 c1 c2 c3,cs=[byteV x.1,.slice a1 x.2.1.length c1,.slice a2 x.2.2.1.length c2,.slice a3 x.2.2.2.1.length c3]∧Arr Rp.u8 h (.slice a1 x.2.1.length c1) x.2.1∧Arr Rp.u8 h (.slice a2 x.2.2.1.length c2) x.2.2.1∧Arr LeafRp h (.slice a3 x.2.2.2.1.length c3) x.2.2.2.1:=by
 obtain ⟨v1,v2,v3,rfl,h1,h2,h3⟩:=NodeRp.open r;obtain ⟨a1,c1,rfl⟩:=h1.shape;obtain ⟨a2,c2,rfl⟩:=h2.shape;obtain ⟨a3,c3,rfl⟩:=h3.shape;exact ⟨a1,a2,a3,c1,c2,c3,rfl,h1,h2,h3⟩
theorem NodeRp.mk {h:Fr} {x0:UInt8} {x1:List UInt8} {v1:Value} {x2:List UInt8} {v2:Value} {x3:List LeafT} {v3:Value} (h1:Arr Rp.u8 h v1 x1) (h2:Arr Rp.u8 h v2 x2) (h3:Arr LeafRp h v3 x3):NodeRp.rel h [byteV x0,v1,v2,v3] (x0,x1,x2,x3,()) :=
 ⟨[byteV x0],[v1,v2,v3],rfl,rfl,⟨[v1],[v2,v3],rfl,⟨v1,rfl,h1⟩,⟨[v2],[v3],rfl,⟨v2,rfl,h2⟩,⟨[v3],[],rfl,⟨v3,rfl,h3⟩,rfl⟩⟩⟩⟩
abbrev PrfT:Type:=(List (List UInt8)) × (List StubT) × Unit
abbrev RootT:Type:=Int × Int × Int × (List UInt8) × (List UInt8) × Unit
abbrev EvdT:Type:=RootT × RootT × Unit
abbrev HeldT:Type:=(List LeafT) × (List RootT) × (List EvdT) × (List Int) × Unit
end Go.Sp
end
section
/- Texts of this proof, one behind the other. -/
section
/- Texts of this proof, one behind the other. -/
section
/- Texts of this proof. -/
namespace Go.Sp
abbrev SEnt:=List UInt8 × Value × Nat
theorem str_beq (a b:List UInt8):(str a ==str b)=decide (a=b):=by
 show (ByteArray.beq (str a) (str b))=_
 unfold ByteArray.beq
 by_cases h:a=b
 ·subst h;simp
 ·simp [h,str]
section
variable {ro:Option Nat} {P:Program} {fn:Func} {n:Nat} {R:Ending→World→Prop} {k:List Item} {σ:List (Nat × Value)} {D:List Deferred} {g:Gr} {η ζ θ:List SProp} {ops:Array Oper} {i d:Nat} {ls:List Nat}
 {t tk te:TypeId} {x y z:Operand} {b c:Nat} {l:List SEnt} {key:List UInt8} {w:World}
theorem run_checkKey_str (hk:P.underlying tk=some .string) (e:Bool) (n:Nat):(Instr.checkKey e (n+1) tk (.string (str key))).run P w=.ok () w:=by
 simp only [Instr.checkKey,Sem.run_bind,run_underlying hk,Result.andThen]
 rfl
theorem run_next_at {ty bm since c0 clk r:Nat} {seen:Array Nat} {es:Array MapEntry} (hr:w.heap[r]?=some (.mapIter (some bm) since seen c0)) (hb:w.heap[bm]?=some (.map es clk)) (hold:∀ x∈es.toList,x.born<since) (hsc:since≤c0) :
  ((leftOf es seen).size=0∧(Instr.next (.pointer (some ⟨r,0,none⟩)) false ty).run P w=.ok (.tuple #[.bool false]) w) ∨
  ∃ e∈(leftOf es seen).toList,∃ n:Nat,w.drawn≤n∧(Instr.next (.pointer (some ⟨r,0,none⟩)) false ty).run P w=.ok (.tuple #[.bool true,e.key,e.val]) (({ w with drawn:=n }:World).putObj r (.mapIter (some bm) since (seen.push e.born) clk)):=by
 simp only [Instr.next,getObj,Sem.run_bind,Sem.run,hr,hb,Result.andThen,next_test_false seen es since c0 hold hsc,Bool.false_eq_true,if_false];unfold leftOf;have hmem:∀ x∈(Array.filter (fun e=>!seen.contains e.born) es).toList,x.born<since:=fun x hx=>hold x (by simp at hx ⊢;exact hx.1);generalize Array.filter (fun e=>!seen.contains e.born) es=L at hmem ⊢;have e1:L.filter (fun x=>decide (x.born<since))=L:=Array.filter_eq_self.2 (fun x hx=>by simpa using hmem x (by simpa using hx));have e2:L.filter (fun x=>decide (x.born≥since))=#[]:=by
  rw [Array.filter_eq_empty_iff]
  intro x hx
  have:=hmem x (by simpa using hx)
  simp
  omega
 simp only [e1,e2,Array.append_empty]
 by_cases h0:L.size=0
 ·left
  have:L=#[]:=Array.eq_empty_of_size_eq_zero h0;subst this;refine ⟨rfl,?_⟩
  simp [choose,Sem.run,Question.forced]
 ·right
  have hne:L.isEmpty=false:=by simp [Array.isEmpty,h0]
  simp only [hne,Bool.false_eq_true,if_false,Array.empty_append,Array.size_map];have hch:∃ (j n:Nat),j<L.size∧w.drawn≤n∧(choose (Question.mapNext L.size)).run P w=.ok j { w with drawn:=n }:=by
   by_cases hf:L.size≤1
   ·exact ⟨0,w.drawn,by omega,Nat.le_refl _,by simp [choose,Sem.run,Question.forced,hf]⟩
   ·exact ⟨_,w.drawn+1,Nat.mod_lt _ (by omega),Nat.le_succ _,by
     simp only [choose,Sem.run,Question.forced,decide_eq_true_eq,hf,if_false,Question.cut]
     rfl⟩
  obtain ⟨j,n,hj,hnn,hrun⟩:=hch;refine ⟨L[j],by simp,n,hnn,?_⟩;have hset:∀ (o' :Obj),(setObj r o').run P ({ w with drawn:=n }:World)=.ok () (({ w with drawn:=n }:World).putObj r o'):=fun o' =>by
   simp only [setObj,Sem.run];rw [show ({ w with drawn:=n }:World).heap[r]?=some (.mapIter (some bm) since seen c0) from hr]
   rfl
  simp only [hrun,Array.getElem?_map,Array.getElem?_eq_getElem hj,Option.map_some,Sem.run_bind,hset,Result.andThen]
  rfl
end
end Go.Sp
end
section
/- Texts of this proof, one behind the other. -/
section
/- Texts of this proof. -/
namespace Go.Sp
section
variable {ro:Option Nat} {P:Program} {fn:Func} {n:Nat} {R:Ending→World→Prop} {k:List Item} {σ:List (Nat × Value)} {D:List Deferred} {g:Gr} {η ζ θ:List SProp} {ops:Array Oper} {i d:Nat} {ls:List Nat}
 {t tk te e:TypeId} {x y z:Operand} {b c:Nat} {l:List SEnt} {w:World}
theorem str_get (xs:List UInt8) (j:Nat):(str xs)[j]?=xs[j]?:=by
 by_cases h:j<xs.length
 ·rw [List.getElem?_eq_getElem h,getElem?_pos (str xs) j (by rw [str_size];exact h)]
  rfl
 ·rw [List.getElem?_eq_none (by omega),getElem?_neg (str xs) j (by rw [str_size];exact h)]
theorem Does.indexS {xs:List UInt8} {kd:IntKind} {zi:Int} {j:Nat} (ht:P.underlying t=some .string) (hx:ev σ x=some (.string (str xs))) (hy:ev σ y=some (.int kd zi)) (hz:zi=(j:Int)) (hj:j<xs.length) :
  Does P (.index t x y) σ g η (byteV xs[j]) η:=.run fun o ρ w ho hk=>by
 subst hz;have h:=str_get xs j;rw [List.getElem?_eq_getElem hj] at h
 simp [execOp,ho,hk x _ hx,hk y _ hy,Instr.index,asIntOf,run_underlying ht,h]
 rfl
theorem Does.idxArr {kd:IntKind} {zi:Int} {j len bo off:Nat} (ht:P.underlying t=some (.array len e)) (he:(P.info? e).map (·.size)=some 1) (hx:ev σ x=some (.pointer (some ⟨bo,off,none⟩))) (hy:ev σ y=some (.int kd zi)) (hz:zi=(j:Int)) (hj:j<len) :
  Does P (.indexAddr t x y) σ g η (.pointer (some ⟨bo,off+j,none⟩)) η:=.run fun o ρ w ho hk=>by
 subst hz
 simp [execOp,ho,hk x _ hx,hk y _ hy,Instr.indexAt,Instr.sureAddr,asIntOf,run_underlying ht,hj,run_sizeOf he,Addr.add]
theorem Does.idxArrA {kd:IntKind} {zi:Int} {j len:Nat} {p:Addr} (ht:P.underlying t=some (.array len e)) (he:(P.info? e).map (·.size)=some 1) (hx:ev σ x=some (.pointer (some p))) (hy:ev σ y=some (.int kd zi)) (hz:zi=(j:Int)) (hj:j<len) :
  Does P (.indexAddr t x y) σ g η (.pointer (some (p.add j))) η:=.run fun o ρ w ho hk=>by
 subst hz
 simp [execOp,ho,hk x _ hx,hk y _ hy,Instr.indexAt,Instr.sureAddr,asIntOf,run_underlying ht,hj,run_sizeOf he]
def setV (cs:List UInt8):List Value:=(List.range 256).map fun i=>.bool (decide (i∈cs.map (·.toNat)))
@[simp] theorem setV_length (cs:List UInt8):(setV cs).length=256:=by simp [setV]
theorem run_equal_mapN {m:Option Nat} (ht:P.underlying t=some (.map tk te)):(Op.equal t (.map m) (.map none)).run P w=.ok m.isNone w:=by
 show (Op.equalIn (9999+1) t (.map m) (.map none)).run P w=.ok m.isNone w
 unfold Op.equalIn;simp only [Sem.run_bind,run_underlying ht,Result.andThen]
 cases m<;>rfl
theorem Does.neqM {m:Option Nat} {u:TypeId} (ht:P.underlying t=some (.map tk te)) (hx:ev σ x=some (.map m)) (hy:ev σ y=some (.map none)):Does P (.binOp .neq t x y u) σ g η (.bool m.isSome) η :=
 .run fun o ρ w ho hk=>by
  simp [execOp,ho,hk x _ hx,hk y _ hy,eqGuard,Go.binOp,run_equal_mapN (w:=w) (m:=m) ht]
  try cases m<;>rfl
theorem Does.strTo {xs:List UInt8} {kb:IntKind} {zb:Int} {b:Nat} (ht:P.underlying t=some .string) (hx:ev σ x=some (.string (str xs))) (hy:ev σ y=some (.int kb zb)) (hz:zb=(b:Int)) (hb:b≤xs.length) :
  Does P (.slice t x none (some y) none) σ g η (.string (str (xs.take b))) η:=by
 subst hz;exact str_does (P:=P) (σ:=σ) (g:=g) (kl:=.i64) (kh:=kb) (a:=0) (b:=b) ht hx (lo:=none) (hi:=some y) (fun _ h=>nomatch h) (fun _=>rfl) (fun _ h=>by cases h;exact hy) (fun h=>nomatch h) (Nat.zero_le _) hb η
end
end Go.Sp
end
section
/- Texts of this proof. -/
namespace Go.Sp
abbrev SS:=List (List UInt8 × List UInt8 × Nat)
def sumT (m:SS):Nat:=(m.map fun x=>x.2.1.length).sum
section
variable {ro:Option Nat} {P:Program} {fn:Func} {n:Nat} {R:Ending→World→Prop} {k:List Item} {σ:List (Nat × Value)} {D:List Deferred} {g:Gr} {η ζ θ:List SProp} {ops:Array Oper} {i d:Nat} {ls:List Nat}
 {t tk te:TypeId} {x y z:Operand} {b c:Nat} {m:SS} {key v:List UInt8} {w:World}
end
end Go.Sp
end
end
end
section
/- Texts of this proof. -/
namespace Go.Sp
variable {ro:Option Nat} {P:Program} {fn:Func} {n:Nat} {R:Ending→World→Prop} {k:List Item} {σ:List (Nat × Value)} {D:List Deferred} {g:Gr} {η:List SProp}
theorem S.reloop {c:Code} (h:S ro P fn n R (.code c::.inLoop c::k) σ D g η):S ro P fn n R (.inLoop c::k) σ D g η :=
 fun a w hf hd hw=>.step (fun _ _=>stepR_inLoop) (h a w hf hd hw)
theorem S.rangeAny {P:Program} {fn:Func} {n:Nat} {R:Ending→World→Prop} {k:List Item} {σ:List (Nat × Value)} {D:List Deferred} {g:Gr} {η ζ θ θ' :List SProp} {f:FuncId} {x:Operand} {first cap:Array Value} {ps:Array Tmp} {psl:List Nat} {assign body:Code}
  {β χ τ:Type} {vs:β→χ→List Value} {own:β→χ→List SProp} (Ok Fin:List β→Prop) (W:List β→τ→List SProp) (x0:τ) (hx:ev σ x=some (.func (.func f) first cap)) (hc:callable P f=true) (hps:ps=psl.toArray) (hln:∀ y e,(vs y e).length=psl.length) (hb:psl.all (fun p=>Nat.blt p n)=true)
  (it:∀ (l:Nat) (J:List β→SProp),(∀ done y e,Ok (done++[y])→YCon P l (vs y e).toArray g.h (own y e++[J done]) (Ret fun u η=>u=.bool true∧η=[J (done++[y])])) →
   Con P f (first++#[yieldV l]++cap) g.h (θ++[J []]) (Ret fun _ η=>∃ ys,Fin ys∧η=θ' ++[J ys]))
  (hs:Sels η (θ++W [] x0) ζ)
  (round:∀ (l D0 fid:Nat) (tm:Array Value) (done:List β) (y:β) (e:χ) (t:τ) (_:Ok (done++[y])) (g' :Gr),g.h.sub g'.h→∀ R:Ending→World→Prop,
   (∀ t' w,Holds w g' (blk l (.loop (loopRec fid tm ps assign body D0))::W (done++[y]) t')→R (.returned (.bool true)) w) →
   S (some l) P fn n R [.code assign,.beginRound,.code body] (under psl (vs y e) σ) [] g' (blk l (.loop (loopRec fid tm ps assign body D0))::(W done t++own y e)))
  (h:∀ D0 t ys,Fin ys→S none P fn n R k σ (⟨.collected D0,#[]⟩::D) g (blk D0 (.deferred (some []))::(W ys t++(θ' ++ζ)))) :
  S none P fn n R (.code (.rangeFunc x ps assign body)::k) σ D g η:=by
 refine S.rangeFunc (J:=fun j ζ' =>j=none∧∃ ys t,Fin ys∧ζ' =W ys t++(θ' ++ζ)) hx hc (fun l D0 fid tm hfn hfit=>?_) (fun D0 jump ζ' hJ=>?_)
 ·let L:=loopRec fid tm ps assign body D0
  have hy:∀ done y e,Ok (done++[y])→YCon P l (vs y e).toArray g.h (own y e++[fun m=>∃ t,Sat (blk l (.loop L)::W done t) m]) (Ret fun u η=>u=.bool true∧η=[fun m=>∃ t,Sat (blk l (.loop L)::W (done++[y]) t) m]):=by
   intro done y e hpre
   refine YCon.perm (List.perm_append_comm) (YCon.exi (A:=fun t m=>Sat (blk l (.loop L)::W done t) m) fun t=>?_);refine YCon.imp (ζ:=blk l (.loop L)::(W done t++own y e)) (fun _ z=>Sat.unpack (fun _ u=>u) z) ?_;refine YCon.of (fn:=fn) (n:=n) (σ:=σ) (vs y e) psl rfl hps (hln y e) hb hfn hfit (fun g' hg' R hR=>?_);exact round l D0 fid tm done y e t hpre g' hg' R fun t' w hw=>hR _ _ w ⟨rfl,rfl⟩ (Holds.pack (ζ:=[]) (ws:=blk l (.loop L)::W (done++[y]) t') (A:=fun m=>∃ t,Sat (blk l (.loop L)::W (done++[y]) t) m) (fun _ z=>⟨t',z⟩) (by simpa using hw))
  have hi:=(it l _ hy).frame (ζ:=ζ)
  intro g' hg' w hw
  have hw1:Holds w g' ((θ++[fun m=>∃ t,Sat (blk l (.loop L)::W [] t) m])++ζ):=by
   have hp:(blk l (.loop L)::η).Perm ((blk l (.loop L)::W [] x0)++(θ++ζ)):=by
    refine (List.Perm.cons _ hs.perm).trans ?_;rw [List.cons_append,List.append_assoc];refine List.Perm.cons _ ?_;rw [← List.append_assoc,← List.append_assoc];exact List.Perm.append_right _ List.perm_append_comm
   have h1:=Holds.pack (A:=fun m=>∃ t,Sat (blk l (.loop L)::W [] t) m) (fun _ z=>⟨x0,z⟩) (hw.perm hp);refine h1.perm ?_;rw [← List.cons_append,List.append_assoc];exact (List.perm_append_comm (l₁:=[_]) (l₂:=θ)).append_right ζ |>.trans (by rw [List.append_assoc])
  refine (hi g' hg' w hw1).mono fun e w' hh=>?_;obtain ⟨η',⟨η₁,hp,rfl⟩,hw'⟩:=hh
  cases e with
  |panicked _=>exact hp.elim
  |outgrown=>exact hp.elim
  |returned v =>
   obtain ⟨ys,hfin,rfl⟩:∃ ys,Fin ys∧η₁=_:=hp;have h2:Holds w' g' ((fun m=>∃ t,Sat (blk l (.loop L)::W ys t) m)::(θ' ++ζ)):=hw'.perm (by
    rw [← List.cons_append];exact (List.perm_append_comm (l₁:=θ') (l₂:=[_])).append_right ζ)
   obtain ⟨t,h3⟩:=Holds.exi (A:=fun t m=>Sat (blk l (.loop L)::W ys t) m) h2;exact ⟨_,⟨L,W ys t++(θ' ++ζ),by simp [L,loopRec],⟨rfl,ys,t,hfin,rfl⟩,rfl⟩,h3.imp fun _ z=>Sat.unpack (fun _ u=>u) z⟩
 ·obtain ⟨rfl,ys,t,hfin,rfl⟩:=hJ
  exact h D0 t ys hfin
section
variable {ops:Array Oper} {l:List Nat} {i d:Nat} {T:TypeId} {x:Operand} {v:Value} {cs:List Value}
end
end Go.Sp
end
end
end
end
section
/- Texts of this proof, one behind the other. -/
section
/- Texts of this proof, one behind the other. -/
section
/- Texts of this proof. -/
namespace Go.Sp
section
variable {ro:Option Nat} {P:Program} {fn:Func} {n:Nat} {R:Ending→World→Prop} {ops:Array Oper} {k:List Item} {σ:List (Nat × Value)} {D:List Deferred} {g:Gr} {η ζ θ:List SProp} {t e:TypeId} {x y:Operand}
theorem S.frzH {todo:List Item} {B:SProp} (s:Sel η B ζ) (h:∀ g' :Gr,g.h.sub g'.h→(∃ m:Fr,B m∧m.sub g'.h)→(∀ {w:World} {θ:List SProp},Holds w g' θ→Holds w g (B::θ))→S ro P fn n R todo σ D g' ζ):S ro P fn n R todo σ D g η :=
 S.sel s (S.freeze fun m hm hd=>h (g.add m) (Fr.sub_add_left _ _) ⟨m,hm,Fr.sub_add_right hd⟩ fun hw=>hw.thaw hm hd)
theorem OD.last1 {g0:Gr} {T:TypeId} {b i j:Nat} {cs:List Value} {v:Value} (ho:opAtU ops j=some (.store t x y)) (hl:lastOk ops j=true) (hth:∀ w,Holds w g η→Holds w g0 ζ) (ht:flat1 P t=true) (hx:ev σ x=some (.pointer (some ⟨b,i,none⟩))) (hy:ev σ y=some v)
  (h1:v.oneCell' =true) (hs:Sel ζ (obj b T cs) θ) (hc:i<cs.length) (h:S none P fn n R k σ D g0 (obj b T (cs.set i v)::θ)):OD P fn n R ops k D g [j] σ η :=
 .one rfl (.lastU ho rfl hl (fun o ρ w q1 q2 q3=>let ⟨w',a,b⟩:=DoesU.store1 ht hx hy h1 hs hc o ρ w q1 q2 (hth w q3);⟨w',.skip,a,.inl rfl,b⟩) h)
theorem S.fold {todo:List Item} {A:SProp} {bs:List SProp} (hA:∀ m,Sat bs m→A m) (h:S ro P fn n R todo σ D g (A::ζ)):S ro P fn n R todo σ D g (bs++ζ) :=
 S.imp' (η:=bs++ζ) (ζ:=A::ζ) (fun m hm=>by
  obtain ⟨m1,m2,d,s1,s2,x,y⟩:=Sat.split hm;exact ⟨m1,m2,d,s1,s2,hA _ x,y⟩) h
theorem S.open {todo:List Item} {α:Type} {A:SProp} {bs:α→List SProp} (s:Sel η A ζ) (hA:∀ m,A m→∃ x,Sat (bs x) m) (h:∀ x,S ro P fn n R todo σ D g (bs x++ζ)):S ro P fn n R todo σ D g η :=
 S.sel s (S.entail (ζ:=[fun m=>∃ x,Sat (bs x) m]) (fun m hm=>⟨m,Fr.emp,Fr.disj_symm (Fr.emp_disj _),Fr.sub_refl _,Fr.emp_sub _,hA m hm,trivial⟩) (S.exi fun x=>S.entail (fun _ q=>q) (h x)))
theorem S.ownIs {todo:List Item} {α:Type} {T:Rp α} {e:TypeId} {v v' :Value} {xs xs' :List α} (s:Sel η (OwnP T e v xs) ζ) (hv:v=v') (hx:xs=xs') (h:S ro P fn n R todo σ D g (OwnP T e v' xs' ::ζ)):S ro P fn n R todo σ D g η:=by
 subst hv hx;exact S.sel s h
theorem look_app (a b:List (Nat × Value)) (t:Nat):look (a++b) t=match look a t with|some v=>some v|none=>look b t:=by
 induction a with
 |nil=>rfl
 |cons x a ih =>
  cases hq:x.1.beq t
  ·simp only [List.cons_append,look,hq];exact ih
  ·simp only [List.cons_append,look,hq]
theorem Sub.app {a b σ:List (Nat × Value)} (ha:Sub a σ) (hb:Sub b σ):Sub (a++b) σ:=fun t v h=>by
 rw [look_app] at h
 cases hq:look a t with
 |some u=>rw [hq] at h;exact ha t v (by rw [hq];exact h)
 |none=>rw [hq] at h;exact hb t v h
theorem S.regionJ {α:Type} {L:List Nat} {id:Nat} (lv:α→List (Nat × Value)) (σ0:List (Nat × Value)) (η' :α→List SProp) (_:Sub σ0 σ) (hm:P.follows .mixedOrders=true) (hok:orderOk P n ops L=true)
  (h1:∀ kk,(∀ x,S none P fn n R kk (lv x++σ0) D g (η' x))→OD P fn n R ops kk D g L σ η) (h2:∀ x,S none P fn n R k (lv x++σ0) D g (η' x)):S none P fn n R (.code (.region id ops true)::k) σ D g η :=
 S.regionD hm hok (h1 k h2)
theorem S.cut2 {ro:Option Nat} {α:Type} {i0 i1:Item} {kk:List Item} (φ:α→Prop) (lv:α→List (Nat × Value)) (σ0:List (Nat × Value)) (η' :α→List SProp) (_:Sub σ0 σ)
  (h1:(∀ x,φ x→S ro P fn n R kk (lv x++σ0) D g (η' x))→S ro P fn n R (i0::i1::kk) σ D g η) (h2:∀ x,φ x→S ro P fn n R kk (lv x++σ0) D g (η' x)):S ro P fn n R (i0::i1::kk) σ D g η:=h1 h2
theorem DoesE.strBytesO {t2:TypeId} {xs:List UInt8} (ht:P.underlying t=some .string) (ht2:P.underlying t2=some (.slice e)) (he:P.underlying e=some (.int .u8)) (hx:ev σ x=some (.string (str xs))) (hl:xs.length≤9223372036854775807) :
  DoesE P (.convert t t2 x) σ g η fun u η' =>∃ a c,u=.slice a xs.length c∧η' =OwnP Rp.u8 e u xs::η :=
 fun o ρ w ho hk hw=>by
  have hr:=Lib.run_convert_string_bytes (P:=P) w t t2 e (str xs) ht ht2 he;have ho' :(execOp ρ o).run P w=.ok (.value (.slice (some ⟨w.heap.size,0,none⟩) (str xs).size (grownCap w (str xs).size 0 e))) (Lib.bytesWorld w e (str xs)):=by
   simp [execOp,ho,hk x _ hx,hr]
  have hge:=grownCap_ge w (str xs).size 0 e;have hcm:=grownCap_le_maxLen w (str xs).size 0 e (by simpa [maxLen] using hl);rw [str_size] at hge hcm;have hh:Holds (Lib.bytesWorld w e (str xs)) g (blk w.heap.size (.cells (Lib.bytesCells w e (str xs)) e ((Lib.bytesCells w e (str xs)).size,(Lib.bytesCells w e (str xs)).size+1))::η):=by
   have h1:Holds (w.drew.alloc (.cells (Lib.bytesCells w e (str xs)) e)) g (blk w.heap.size (.cells (Lib.bytesCells w e (str xs)) e)::η):=(hw.drewN (w.drawn+1) (Nat.le_add_right _ _)).alloc _;refine h1.setBlock (Lib.bytesWorld_at_new w e (str xs)) ?_ rfl rfl rfl
   intro i hi
   have:w.heap.size≠i:=fun h=>hi h.symm
   simp [Lib.bytesWorld,World.freeze,Array.getElem?_modify,this]
  have hsz:(Lib.bytesCells w e (str xs)).size=grownCap w xs.length 0 e:=by
   simp only [Lib.bytesCells,Array.size_append,Array.size_map,Array.size_replicate,str_size]
   simp [str];omega
  have e1:(xs.map (fun b=>[byteV b])).flatten=xs.map byteV:=by
   clear hx hl hr ho' hge hcm hh hsz
   induction xs with
   |nil=>rfl
   |cons a xs ih=>simp [ih]
  refine ⟨_,_,_,⟨some ⟨w.heap.size,0,none⟩,grownCap w xs.length 0 e,by rw [str_size],rfl⟩,ho',?_⟩;rw [str_size];refine (hh.ownF (k:=1) (m:=xs.length) (cap:=grownCap w xs.length 0 e) (cs:=(xs.map (fun b=>[byteV b])).flatten) (fun j hj h=>by have h1:=h.1;simp only [hsz] at h1;omega) hge (by simpa [maxLen] using hcm) (by rw [hsz];simp) ?_).imp fun _ =>
   Sat.cons_imp (OwnP.of (T:=Rp.u8) (css:=xs.map fun b=>[byteV b]) (all2_map (fun _=>rfl) xs) rfl rfl rfl) fun _ q=>q
  rw [e1];simp only [Lib.bytesCells,Nat.mul_one]
  simp [str,byteV]
theorem OD.alt3 {l:List Nat} (a b c:Nat) (la lb lc:List Nat) (hok:altOk ops [a,b,c] l=true) (ha:l.erase a=la) (hb:l.erase b=lb) (hc:l.erase c=lc)
  (h1:ODx P fn n R ops k D g true (a::la) σ η) (h2:ODx P fn n R ops k D g true (b::lb) σ η) (h3:ODx P fn n R ops k D g true (c::lc) σ η):OD P fn n R ops k D g l σ η:=by
 subst ha hb hc;refine .alt [a,b,c] hok fun i hi=>?_;simp only [List.mem_cons,List.not_mem_nil,or_false] at hi
 rcases hi with rfl|rfl|rfl
 ·exact h1
 ·exact h2
 ·exact h3
theorem ODg.strBytesO {fl:Bool} {i d:Nat} {t2:TypeId} {xs:List UInt8} {l:List Nat} (ho:Fires ops i n σ d (.convert t t2 x)) (hd:hdOk fl ops i l=true) (ht:P.underlying t=some .string) (ht2:P.underlying t2=some (.slice e)) (he:P.underlying e=some (.int .u8)) (hx:ev σ x=some (.string (str xs))) (hl:xs.length≤9223372036854775807)
  (h:∀ a c,OD P fn n R ops k D g l ((d,.slice a xs.length c)::σ) (OwnP Rp.u8 e (.slice a xs.length c) xs::η)):ODx P fn n R ops k D g fl (i::l) σ η :=
 ODg.loudE (K:=fun u η' =>∃ a c,u=.slice a xs.length c∧η' =OwnP Rp.u8 e u xs::η) ho rfl hd
  (fun ζ=>(DoesE.strBytesO (η:=η++ζ) ht ht2 he hx hl).imp fun v η' ⟨a,c,h1,h2⟩=>⟨_,⟨a,c,h1,rfl⟩,h2⟩) (by rintro v _ ⟨a,c,rfl,rfl⟩;exact h a c)
theorem OD.strBytesO {i d:Nat} {t2:TypeId} {xs:List UInt8} {l:List Nat} (ho:Fires ops i n σ d (.convert t t2 x)) (hd:descOk ops [i] l=true) (ht:P.underlying t=some .string) (ht2:P.underlying t2=some (.slice e)) (he:P.underlying e=some (.int .u8)) (hx:ev σ x=some (.string (str xs))) (hl:xs.length≤9223372036854775807)
  (h:∀ a c,OD P fn n R ops k D g l ((d,.slice a xs.length c)::σ) (OwnP Rp.u8 e (.slice a xs.length c) xs::η)):OD P fn n R ops k D g (i::l) σ η:=ODg.strBytesO (fl:=false) ho (by simpa [hdOk] using hd) ht ht2 he hx hl h
theorem ODt.strBytesO {i d:Nat} {t2:TypeId} {xs:List UInt8} {l:List Nat} (ho:Fires ops i n σ d (.convert t t2 x)) (_:true=true) (ht:P.underlying t=some .string) (ht2:P.underlying t2=some (.slice e)) (he:P.underlying e=some (.int .u8)) (hx:ev σ x=some (.string (str xs))) (hl:xs.length≤9223372036854775807)
  (h:∀ a c,OD P fn n R ops k D g l ((d,.slice a xs.length c)::σ) (OwnP Rp.u8 e (.slice a xs.length c) xs::η)):ODx P fn n R ops k D g true (i::l) σ η:=ODg.strBytesO (fl:=true) ho rfl ht ht2 he hx hl h
end
end Go.Sp
end
section
/- Texts of this proof, one behind the other. -/
section
/- Texts of this proof. -/
namespace Go.Sp
theorem EachP.of_sat {β α:Type} {A:β→α→SProp}:∀ {bs:List β} {as:List α} {m:Fr},bs.length=as.length→Sat (List.zipWith A bs as) m→EachP A bs as m
 |[],[],_,_,_=>trivial
 |[],_::_,_,h,_=>by cases h
 |_::_,[],_,h,_=>by cases h
 |b::bs,a::as,m,hl,h=>by
  obtain ⟨h1,h2,d,s1,s2,x,y⟩:=h;exact ⟨h1,h2,d,s1,s2,x,h2,Fr.emp,Fr.disj_symm (Fr.emp_disj _),Fr.sub_refl _,Fr.emp_sub _,EachP.of_sat (by simpa using hl) y,trivial⟩
section
variable {ro:Option Nat} {P:Program} {fn:Func} {n:Nat} {R:Ending→World→Prop} {σ:List (Nat × Value)} {D:List Deferred} {g:Gr} {η ζ:List SProp} {todo:List Item} {ops:Array Oper} {L:List Nat} {k:List Item}
theorem S.foldS {A:SProp} {bs:List SProp} (hb:Sels η bs ζ) (hA:∀ m,Sat bs m→A m) (h:S ro P fn n R todo σ D g (A::ζ)):S ro P fn n R todo σ D g η :=
 S.perm hb.perm (S.fold hA h)
theorem S.eachOf {β α:Type} (A:β→α→SProp) {bs:List β} {ys:List α} (hb:Sels η (List.zipWith A bs ys) ζ) (hl:bs.length=ys.length) (h:S ro P fn n R todo σ D g (EachP A bs ys::ζ)):S ro P fn n R todo σ D g η :=
 S.foldS hb (fun _ z=>EachP.of_sat hl z) h
end
theorem less_eq:∀ x y:List UInt8,Op.bytesLess x y=decide (x<y)
 |x,[]=>by cases x<;>simp [Op.bytesLess]
 |[],_::_=>by simp [Op.bytesLess]
 |a::x,b::y=>by
  rw [Op.bytesLess,less_eq x y];rw [Bool.eq_iff_iff]
  simp [List.cons_lt_cons_iff]
theorem lssS_eq (x y:List UInt8):Op.bytesLess (str x).toList (str y).toList=decide (x<y):=by rw [str_toList,str_toList,less_eq]
theorem S.back {ro:Option Nat} {P:Program} {fn:Func} {n:Nat} {R:Ending→World→Prop} {σ:List (Nat × Value)} {D:List Deferred} {g g' :Gr} {η:List SProp} {todo:List Item} {B:SProp} (hb:∀ {w:World} {θ:List SProp},Holds w g' θ→Holds w g (B::θ)) (h:S ro P fn n R todo σ D g (B::η)):S ro P fn n R todo σ D g' η :=
 fun a w hf hd hw=>h a w hf hd (hb hw)
theorem backR {g g' :Gr} {B:SProp} {Post:Ending→List SProp→Prop} {R:Ending→World→Prop} (hR:∀ e η' w',Post e η' →Holds w' g η' →R e w') (hb:∀ {w:World} {θ:List SProp},Holds w g' θ→Holds w g (B::θ)) :
  ∀ e η' w',Post e η' →Holds w' g' η' →R e w' :=fun e η' w' p h=>hR e η' w' p (hb h).drop
def Rp.comap {α β:Type} (f:α→β) (T:Rp β):Rp α:={ k:=T.k,rel:=fun h cs a=>T.rel h cs (f a),len:=fun h=>T.len h,mono:=fun s h=>T.mono s h,one:=fun h=>T.one h }
theorem Fr.sub.mono {a b c:Fr} (h:a.sub b) (k:b.sub c):a.sub c:=Fr.sub_trans h k
section
variable {ro:Option Nat} {P:Program} {fn:Func} {n:Nat} {R:Ending→World→Prop} {ops:Array Oper} {K:List Item} {σ:List (Nat × Value)} {D:List Deferred} {g:Gr} {η:List SProp} {i d:Nat} {l:List Nat} {t e:TypeId} {x y:Operand} {v:Value} {kd:IntKind} {j:Nat} {r:Fr}
theorem idx_doesR {α:Type} {T:Rp α} {xs:List α} (ht:P.underlying t=some (.slice e)) (he:(P.info? e).map (·.size)=some T.k) (hx:ev σ x=some v) {zi:Int} (hy:ev σ y=some (.int kd zi)) (hzi:zi=(j:Int))
  (hs:Arr T r v xs) (hk0:0<T.k) (hm:j<xs.length):∃ p cs,(∀ η,Does P (.indexAddr t x y) σ g η (.pointer (some p)) η)∧At r p cs∧T.rel r cs xs[j]:=by
 subst hzi;obtain ⟨css,ha,hsl⟩:=hs;obtain ⟨a,cap,rfl,h1,h2,h3,h4⟩:=hsl
 cases a with
 |none =>
  have:0<css.flatten.length:=by rw [h3];exact Nat.mul_pos (by omega) hk0
  obtain ⟨p,hp,_⟩:=h4 0 this
  cases hp
 |some a =>
  have hj:j<css.length:=by rw [ha.length];exact hm
  refine ⟨a.add (j*T.k),css[j],fun η=>.run fun o ρ w ho hk=>?_,?_,ha.get j hj hm⟩
  ·have hij:(j:Int)<(xs.length:Int):=by omega
   simp [execOp,ho,hk x _ hx,hk y _ hy,Instr.indexAt,asIntOf,run_underlying ht,hm,run_sizeOf he]
  ·rw [← ha.flat_get j hj]
   intro q hq
   rw [Addr.add_add];have hq' :j*T.k+q<css.flatten.length:=by simp only [List.length_take,List.length_drop] at hq;omega
   obtain ⟨p,hp,hc⟩:=h4 _ hq'
   cases hp
   rw [hc];simp
theorem O.idxR {α:Type} {T:Rp α} {xs:List α} (ho:Fires ops i n σ d (.indexAddr t x y)) (ht:P.underlying t=some (.slice e)) (he:(P.info? e).map (·.size)=some T.k) (hx:ev σ x=some v)
  {zi:Int} (hy:ev σ y=some (.int kd zi)) (hzi:zi=(j:Int)) (hs:Arr T r v xs) (hr:r.sub g.h) (hk0:0<T.k) (hm:j<xs.length)
  (h:∀ p cs,At g.h p cs→T.rel r cs xs[j]→O ro P fn n R ops l K ((d,.pointer (some p))::σ) D g η):O ro P fn n R ops (i::l) K σ D g η:=by
 obtain ⟨p,cs,h1,h2,h3⟩:=idx_doesR (g:=g) ht he hx hy hzi hs hk0 hm;exact O.op ho (h1 η) (h p cs (h2.mono hr) h3)
theorem OD.idxR {α:Type} {T:Rp α} {xs:List α} (ho:Fires ops i n σ d (.indexAddr t x y)) (ht:P.underlying t=some (.slice e)) (he:(P.info? e).map (·.size)=some T.k) (hx:ev σ x=some v)
  {zi:Int} (hy:ev σ y=some (.int kd zi)) (hzi:zi=(j:Int)) (hs:Arr T r v xs) (hr:r.sub g.h) (hk0:0<T.k) (hm:j<xs.length)
  (h:∀ p cs,At g.h p cs→T.rel r cs xs[j]→OD P fn n R ops K D g l ((d,.pointer (some p))::σ) η):OD P fn n R ops K D g (i::l) σ η:=by
 obtain ⟨p,cs,h1,h2,h3⟩:=idx_doesR (g:=g) ht he hx hy hzi hs hk0 hm;exact .quiet ho rfl h1 (h p cs (h2.mono hr) h3)
end
end Go.Sp
end
section
/- Texts of this proof. -/
namespace Go.Sp
theorem pk {η η' :List SProp} {Q:List SProp→Prop} (h:Q η') (hp:Picks η η' :=by repeat (first|exact zpa|exact zpn|(apply zpc;focus (repeat (first|exact zh|apply zt)))|apply zps)):∃ η',Q η' ∧Picks η η' :=⟨η',h,hp⟩
section
variable {ro:Option Nat} {P:Program} {fn:Func} {n:Nat} {R:Ending→World→Prop} {k:List Item} {σ σ' :List (Nat × Value)} {D:List Deferred} {g:Gr} {η ζ:List SProp} {ops:Array Oper} {L l:List Nat} {todo:List Item} {t e:TypeId} {x y:Operand} {v:Value}
theorem S.rt {s:Tmp} {Post:Ending→List SProp→Prop} {η' :List SProp} (hr:fn.results=#[.tmp s]) (hl:look σ s=some v) (hR:∀ e η' w',Post e η' →Holds w' g η' →R e w') (h:Post (.returned v) η')
  (hp:Picks η η' :=by repeat (first|exact zpa|exact zpn|(apply zpc;focus (repeat (first|exact zh|apply zt)))|apply zps)):S none P fn n R (.code .ret::k) σ [] g η :=
 S.ret hr hl fun _ hw=>Holds.end_ hR hw ⟨η',h,hp⟩
theorem S.pw (h:S ro P fn n R todo σ' D g ζ) (hs:Sub σ' σ:=by repeat (first|exact Sub.nil|refine Sub.cons rfl ?_))
  (hp:Picks η ζ:=by repeat (first|exact zpa|exact zpn|(apply zpc;focus (repeat (first|exact zh|apply zt)))|apply zps)):S ro P fn n R todo σ D g η:=S.pk hp (S.weaken hs h)
theorem S.wk (h:S ro P fn n R todo σ' D g η) (hs:Sub σ' σ:=by repeat (first|exact Sub.nil|refine Sub.cons rfl ?_)):S ro P fn n R todo σ D g η:=S.weaken hs h
theorem O.sT {b:Bool} (s:Nat) (hl:look σ s=some (.bool b)) (e:b=true) (h:O ro P fn n R ops L k ((s,.bool true)::σ) D g η):O ro P fn n R ops L k σ D g η:=O.slot s hl (congrArg Value.bool e) h
theorem O.sF {b:Bool} (s:Nat) (hl:look σ s=some (.bool b)) (e:b=false) (h:O ro P fn n R ops L k ((s,.bool false)::σ) D g η):O ro P fn n R ops L k σ D g η:=O.slot s hl (congrArg Value.bool e) h
theorem OD.sT {b:Bool} (s:Nat) (hl:look σ s=some (.bool b)) (e:b=true) (h:OD P fn n R ops k D g L ((s,.bool true)::σ) η):OD P fn n R ops k D g L σ η:=OD.slot s hl (congrArg Value.bool e) h
theorem OD.sF {b:Bool} (s:Nat) (hl:look σ s=some (.bool b)) (e:b=false) (h:OD P fn n R ops k D g L ((s,.bool false)::σ) η):OD P fn n R ops k D g L σ η:=OD.slot s hl (congrArg Value.bool e) h
theorem Does.lo {T:TypeId} {b j:Nat} {cs:List Value} (ht:flat1 P t=true) (hx:ev σ x=some (.pointer (some ⟨b,j,none⟩)):=by exact rfl) (hs:Sel η (obj b T cs) ζ:=by repeat (first|exact zh|apply zt)) (hj:cs[j]?=some v:=by exact rfl):Does P (.load t x) σ g η v η:=.loadObj ht hx hs hj
theorem Does.loA {T:TypeId} {b i:Nat} {cs news:List Value} (ht:∀ w,(isAgg t).run P w=.ok true w) (hsz:(P.info? t).map (·.size)=some news.length:=by kernel_rfl) (hx:ev σ x=some (.pointer (some ⟨b,i,none⟩)):=by exact rfl)
  (hs:Sel η (obj b T cs) ζ:=by repeat (first|exact zh|apply zt)) (hn:(cs.drop i).take news.length=news:=by exact rfl):Does P (.load t x) σ g η (.agg news.toArray) η:=.loadObjAgg ht hsz hx hs hn
theorem O.ia {α:Type} {T:Rp α} {xs:List α} {i d j:Nat} {kd:IntKind} {zi:Int} (ho:Fires ops i n σ d (.indexAddr t x y)) (ht:P.underlying t=some (.slice e)) (he:(P.info? e).map (·.size)=some T.k) (hx:ev σ x=some v) (hy:ev σ y=some (.int kd zi)) (hzi:zi=(j:Int)) (hs:Arr T g.h v xs)
  (hk0:0<T.k:=by decide) (hm:j<xs.length:=by first|omega|(simp;done)|(simp;omega)|decide) (h:∀ p cs,At g.h p cs→T.rel g.h cs xs[j]→O ro P fn n R ops l k ((d,.pointer (some p))::σ) D g η):O ro P fn n R ops (i::l) k σ D g η:=O.idx' ho ht he hx hy hzi hs hk0 hm h
theorem OD.ia {α:Type} {T:Rp α} {xs:List α} {i d j:Nat} {kd:IntKind} {zi:Int} (ho:Fires ops i n σ d (.indexAddr t x y)) (ht:P.underlying t=some (.slice e)) (he:(P.info? e).map (·.size)=some T.k) (hx:ev σ x=some v) (hy:ev σ y=some (.int kd zi)) (hzi:zi=(j:Int)) (hs:Arr T g.h v xs)
  (hk0:0<T.k:=by decide) (hm:j<xs.length:=by first|omega|(simp;done)|(simp;omega)|decide) (h:∀ p cs,At g.h p cs→T.rel g.h cs xs[j]→OD P fn n R ops k D g l ((d,.pointer (some p))::σ) η):OD P fn n R ops k D g (i::l) σ η:=OD.idx' ho ht he hx hy hzi hs hk0 hm h
theorem O.ib {α:Type} {T:Rp α} {xs:List α} {r:Fr} {i d j:Nat} {kd:IntKind} {zi:Int} (ho:Fires ops i n σ d (.indexAddr t x y)) (ht:P.underlying t=some (.slice e)) (he:(P.info? e).map (·.size)=some T.k) (hx:ev σ x=some v) (hy:ev σ y=some (.int kd zi)) (hzi:zi=(j:Int)) (hs:Arr T r v xs) (hr:r.sub g.h)
  (hk0:0<T.k:=by decide) (hm:j<xs.length:=by first|omega|(simp;done)|(simp;omega)|decide) (h:∀ p cs,At g.h p cs→T.rel r cs xs[j]→O ro P fn n R ops l k ((d,.pointer (some p))::σ) D g η):O ro P fn n R ops (i::l) k σ D g η:=O.idxR ho ht he hx hy hzi hs hr hk0 hm h
theorem OD.ib {α:Type} {T:Rp α} {xs:List α} {r:Fr} {i d j:Nat} {kd:IntKind} {zi:Int} (ho:Fires ops i n σ d (.indexAddr t x y)) (ht:P.underlying t=some (.slice e)) (he:(P.info? e).map (·.size)=some T.k) (hx:ev σ x=some v) (hy:ev σ y=some (.int kd zi)) (hzi:zi=(j:Int)) (hs:Arr T r v xs) (hr:r.sub g.h)
  (hk0:0<T.k:=by decide) (hm:j<xs.length:=by first|omega|(simp;done)|(simp;omega)|decide) (h:∀ p cs,At g.h p cs→T.rel r cs xs[j]→OD P fn n R ops k D g l ((d,.pointer (some p))::σ) η):OD P fn n R ops k D g (i::l) σ η:=OD.idxR ho ht he hx hy hzi hs hr hk0 hm h
end
end Go.Sp
end
end
end
section
/- Texts of this proof. -/
namespace Go.Sp
class CSl (P:Program) (t:TypeId) (e:outParam TypeId):Prop where h:P.underlying t=some (.slice e)
class CStr (P:Program) (t:TypeId):Prop where h:P.underlying t=some .string
class CFl (P:Program) (t:TypeId):Prop where h:flat1 P t=true
class CFo (P:Program) (s f:Nat) (o:outParam Nat):Prop where h:fieldOff P s f=some o
theorem zsl {P:Program} {t e:TypeId} [i:CSl P t e]:P.underlying t=some (.slice e):=i.h
theorem zst {P:Program} {t:TypeId} [i:CStr P t]:P.underlying t=some .string:=i.h
theorem zfl {P:Program} {t:TypeId} [i:CFl P t]:flat1 P t=true:=i.h
theorem zfo {P:Program} {s f o:Nat} [i:CFo P s f o]:fieldOff P s f=some o:=i.h
section
variable {P:Program} {σ:List (Nat × Value)} {g:Gr} {η:List SProp}
theorem Does.len1 {t:TypeId} {x:Operand} {e:TypeId} [CSl P t e] {a:Option Addr} {m c:Nat} (hx:ev σ x=some (.slice a m c)):Does P (.call ⟨.builtin .len,#[x],#[t]⟩) σ g η (.int .i64 (m:Int)) η:=.len (t:=t) rfl zsl hx
theorem Does.loadK {t:TypeId} {x:Operand} {p:Addr} {j:Nat} {cs:List Value} {v:Value} (ht:flat1 P t=true) (hx:ev σ x=some (.pointer (some (p.add j)))) (hp:At g.h p cs) (hv:cs[j]?=some v):Does P (.load t x) σ g η v η:=.loadAt ht hx (hp.drop j) (by rw [List.getElem?_drop];exact hv)
theorem Does.loadKK {t:TypeId} {x:Operand} {p:Addr} {i j:Nat} {cs:List Value} {v:Value} (ht:flat1 P t=true) (hx:ev σ x=some (.pointer (some ((p.add i).add j)))) (hp:At g.h p cs) (hv:cs[i+j]?=some v):Does P (.load t x) σ g η v η:=.loadK ht (p:=p) (j:=i+j) (by rw [hx,Addr.add_add]) hp hv
class CAg (P:Program) (t:TypeId) (k:outParam Nat):Prop where
 h:∀ w,(isAgg t).run P w=.ok true w
 s:(P.info? t).map (·.size)=some k
def nrm {α:Type}:List α→Option (List α)
 |[]=>some []
 |a::l=>(nrm l).map (a::·)
theorem nrm_eq {α:Type}:∀ {l m:List α},nrm l=some m→l=m
 |[],_,h=>by cases h;rfl
 |a::l,m,h=>by
  obtain ⟨q,h1,h2⟩:=Option.map_eq_some_iff.1 h;rw [nrm_eq h1];exact h2
theorem Does.loZ {t:TypeId} {x:Operand} {T:TypeId} {b i K:Nat} {cs news:List Value} {ζ:List SProp} [c:CAg P t K] (hx:ev σ x=some (.pointer (some ⟨b,i,none⟩))) (hs:Sel η (obj b T cs) ζ) (hn:nrm ((cs.drop i).take K)=some news) (hl:news.length=K):Does P (.load t x) σ g η (.agg news.toArray) η :=
 .loadObjAgg c.h (by rw [hl];exact c.s) hx hs (by rw [hl];exact nrm_eq hn)
theorem Does.lenS1 {t:TypeId} {x:Operand} [CStr P t] {s:ByteArray} (hx:ev σ x=some (.string s)):Does P (.call ⟨.builtin .len,#[x],#[t]⟩) σ g η (.int .i64 (s.size:Int)) η:=.lenS (t:=t) rfl zst hx
end
theorem Does.fieldOwn {P:Program} {σ:List (Nat × Value)} {g:Gr} {η ζ:List SProp} {s f off b i:Nat} {x:Operand} {T:TypeId} {cs:List Value} (h:fieldOff P s f=some off) (hx:ev σ x=some (.pointer (some ⟨b,i,none⟩))) (_:Sel η (obj b T cs) ζ):Does P (.fieldAddr s x f) σ g η (.pointer (some ⟨b,i+off,none⟩)) η:=.fieldObj h hx
inductive Steps:Nat→Prop→Prop→Prop
 |z {A:Prop}:Steps 0 A A
 |s {n:Nat} {A B C:Prop} (f:C→A) (k:Steps n B C):Steps (n+1) B A
theorem Steps.run {n:Nat} {A B:Prop} (h:Steps n B A):B→A:=by
 induction h with
 |z=>exact id
 |s f _ ih=>exact fun b=>f (ih b)
theorem zz {A B:Prop} (n:Nat) (h:B) (f:Steps n B A:=by repeat (first|exact Steps.z|(apply Steps.s;focus (first|(with_reducible exact S.seq)|((with_reducible apply O.q 1);exact rfl)|(with_reducible exact O.nil)|((with_reducible apply S.region);exact rfl)|((with_reducible apply OD.q 1);exact rfl)|(with_reducible exact S.skip)|(with_reducible exact S.block)|(with_reducible exact S.inBlock)|((with_reducible apply S.exit);exact rfl)|((with_reducible apply S.condT);exact rfl)|((with_reducible apply S.condF);exact rfl)|(with_reducible exact S.unroll)|(with_reducible exact S.reloop)|(with_reducible exact ODx.nil)|(apply O.op;exact .p rfl;(first|exact Does.len1 rfl|exact Does.lss rfl rfl|exact Does.fieldOwn zfo rfl (by repeat (first|exact zh|apply zt))|exact Does.fieldAddr zfo rfl|exact Does.lo zfl|exact Does.loZ rfl (by repeat (first|exact zh|apply zt)) (by exact rfl) (by exact rfl)|exact Does.loadAt zfl rfl (by assumption) (by exact rfl)|exact Does.loadK zfl rfl (by assumption) (by exact rfl)|exact Does.loadKK zfl rfl (by assumption) (by exact rfl)|exact Does.add rfl rfl (IntWalk.i64_in _ (by omega))|exact Does.not rfl|exact Does.nilCheck rfl|exact Does.eql rfl rfl|exact Does.neq rfl rfl|exact Does.gtr rfl rfl|exact Does.leq rfl rfl|exact Does.geq rfl rfl|exact Does.lenS1 rfl|exact Does.mkFunc rfl rfl))|(apply O.op;exact .g rfl rfl;(first|exact Does.len1 rfl|exact Does.lss rfl rfl|exact Does.fieldOwn zfo rfl (by repeat (first|exact zh|apply zt))|exact Does.fieldAddr zfo rfl|exact Does.lo zfl|exact Does.loZ rfl (by repeat (first|exact zh|apply zt)) (by exact rfl) (by exact rfl)|exact Does.loadAt zfl rfl (by assumption) (by exact rfl)|exact Does.loadK zfl rfl (by assumption) (by exact rfl)|exact Does.loadKK zfl rfl (by assumption) (by exact rfl)|exact Does.add rfl rfl (IntWalk.i64_in _ (by omega))|exact Does.not rfl|exact Does.nilCheck rfl|exact Does.eql rfl rfl|exact Does.neq rfl rfl|exact Does.gtr rfl rfl|exact Does.leq rfl rfl|exact Does.geq rfl rfl|exact Does.lenS1 rfl|exact Does.mkFunc rfl rfl))|(apply O.opU;exact rfl;(first|exact DoesU.store1 zfl rfl rfl (by first|rfl|assumption) (by repeat (first|exact zh|apply zt)) (by first|(simp;done)|(simp [Value.cells];done))|exact DoesU.storeObj (by kernel_rfl) rfl rfl rfl rfl (by repeat (first|exact zh|apply zt)) (by first|(simp;done)|(simp [Value.cells];done))))|(apply ODx.quiet;exact .p rfl;exact rfl;(intro _;first|exact Does.fieldAddr zfo rfl|exact Does.loadAt zfl rfl (by assumption) (by exact rfl)|exact Does.loadK zfl rfl (by assumption) (by exact rfl)|exact Does.loadKK zfl rfl (by assumption) (by exact rfl)|exact Does.len1 rfl|exact Does.lss rfl rfl|exact Does.not rfl|exact Does.nilCheck rfl|exact Does.eql rfl rfl|exact Does.neq rfl rfl|exact Does.gtr rfl rfl|exact Does.leq rfl rfl|exact Does.geq rfl rfl|exact Does.add rfl rfl (IntWalk.i64_in _ (by omega))|exact Does.sub rfl rfl (IntWalk.i64_in _ (by omega))|exact Does.lenS1 rfl))|(apply ODx.quiet;exact .g rfl rfl;exact rfl;(intro _;first|exact Does.fieldAddr zfo rfl|exact Does.loadAt zfl rfl (by assumption) (by exact rfl)|exact Does.loadK zfl rfl (by assumption) (by exact rfl)|exact Does.loadKK zfl rfl (by assumption) (by exact rfl)|exact Does.len1 rfl|exact Does.lss rfl rfl|exact Does.not rfl|exact Does.nilCheck rfl|exact Does.eql rfl rfl|exact Does.neq rfl rfl|exact Does.gtr rfl rfl|exact Does.leq rfl rfl|exact Does.geq rfl rfl|exact Does.add rfl rfl (IntWalk.i64_in _ (by omega))|exact Does.sub rfl rfl (IntWalk.i64_in _ (by omega))|exact Does.lenS1 rfl)))))):A:=f.run h
class Tf (b:Bool) (p q:outParam Prop):Prop where
 t:b=true→p
 f:b=false→q
instance (priority:=high) {p:Prop} [Decidable p]:Tf (decide p) p (¬p):=⟨of_decide_eq_true,of_decide_eq_false⟩
instance (priority:=low) {b:Bool}:Tf b (b=true) (b=false):=⟨id,id⟩
section
variable {ro:Option Nat} {P:Program} {fn:Func} {n:Nat} {R:Ending→World→Prop} {k:List Item} {σ:List (Nat × Value)} {D:List Deferred} {g:Gr} {η ζ:List SProp} {ops:Array Oper} {i d:Nat} {l:List Nat} {x:Operand}
theorem S.cd {c:Operand} {x y:Code} {b:Bool} {p q:Prop} [tf:Tf b p q] (hc:ev σ c=some (.bool b)) (ht:p→S ro P fn n R (.code x::k) σ D g η) (hf:q→S ro P fn n R (.code y::k) σ D g η):S ro P fn n R (.code (.cond c x y)::k) σ D g η :=
 S.condB hc (fun h=>ht (tf.t h)) fun h=>hf (tf.f h)
theorem O.v0 {f:FuncId} {xs:Array Operand} {ts:Array TypeId} {vals:List Value} {V:Value} {first cap:Array Value} (ho:Fires ops i n σ d (.call ⟨.value x,xs,ts⟩)) (hx:ev σ x=some (.func (.func f) first cap)) (hc:callable P f=true)
  (hv:evs σ xs.toList=some vals) {args:Array Value} (hargs:first++vals.toArray++cap=args) (con:Con P f args g.h [] (Ret fun v η=>v=V∧η=[]))
  (h:O ro P fn n R ops l k ((d,V)::σ) D g η):O ro P fn n R ops (i::l) k σ D g η:=O.call0 ho hx hc hv hargs con fun _ _ ⟨e1,e2⟩=>by subst e1 e2;exact h
theorem O.vS {f:FuncId} {xs:Array Operand} {ts:Array TypeId} {vals:List Value} {V:Value} {bs:List SProp} {first cap:Array Value} {A:SProp} (ho:Fires ops i n σ d (.call ⟨.value x,xs,ts⟩)) (hx:ev σ x=some (.func (.func f) first cap)) (hc:callable P f=true)
  (hv:evs σ xs.toList=some vals) {args:Array Value} (hargs:first++vals.toArray++cap=args) (hs:Sel η A ζ) (con:Con P f args g.h [A] (Ret fun v η=>v=V∧η=bs))
  (h:O ro P fn n R ops l k ((d,V)::σ) D g (bs++ζ)):O ro P fn n R ops (i::l) k σ D g η:=O.callS ho hx hc hv hargs hs con fun _ _ ⟨e1,e2⟩=>by subst e1 e2;exact h
theorem OD.v0 {f:FuncId} {xs:Array Operand} {ts:Array TypeId} {vals:List Value} {V:Value} {first cap:Array Value} (ho:Fires ops i n σ d (.call ⟨.value x,xs,ts⟩)) (hd:descOk ops [i] l=true) (hx:ev σ x=some (.func (.func f) first cap)) (hc:callable P f=true)
  (hv:evs σ xs.toList=some vals) {args:Array Value} (hargs:first++vals.toArray++cap=args) (con:Con P f args g.h [] (Ret fun v η=>v=V∧η=[]))
  (h:OD P fn n R ops k D g l ((d,V)::σ) η):OD P fn n R ops k D g (i::l) σ η:=OD.call0 ho hd hx hc hv hargs con fun _ _ ⟨e1,e2⟩=>by subst e1 e2;exact h
variable {t e:TypeId} {y:Operand} {v:Value} {kd:IntKind}
class CSz (P:Program) (e:TypeId) (k:outParam Nat):Prop where h:(P.info? e).map (·.size)=some k
theorem zsz {k:Nat} [i:CSz P e k]:(P.info? e).map (·.size)=some k:=i.h
theorem O.iz {α:Type} {T:Rp α} {xs:List α} {i d j:Nat} {zi:Int} (hs:Arr T g.h v xs) (ho:Fires ops i n σ d (.indexAddr t x y):=by first|exact .p rfl|exact .g rfl rfl) (ht:P.underlying t=some (.slice e):=by exact zsl) (he:(P.info? e).map (·.size)=some T.k:=by exact zsz) (hx:ev σ x=some v:=by exact rfl) (hy:ev σ y=some (.int kd zi):=by exact rfl) (hzi:zi=(j:Int):=by exact rfl)
  (hk0:0<T.k:=by decide) (hm:j<xs.length:=by first|omega|(simp;done)|(simp;omega)|decide) (h:∀ p cs,At g.h p cs→T.rel g.h cs xs[j]→O ro P fn n R ops l k ((d,.pointer (some p))::σ) D g η):O ro P fn n R ops (i::l) k σ D g η:=O.idx' ho ht he hx hy hzi hs hk0 hm h
theorem OD.iz {α:Type} {T:Rp α} {xs:List α} {i d j:Nat} {zi:Int} (hs:Arr T g.h v xs) (ho:Fires ops i n σ d (.indexAddr t x y):=by first|exact .p rfl|exact .g rfl rfl) (ht:P.underlying t=some (.slice e):=by exact zsl) (he:(P.info? e).map (·.size)=some T.k:=by exact zsz) (hx:ev σ x=some v:=by exact rfl) (hy:ev σ y=some (.int kd zi):=by exact rfl) (hzi:zi=(j:Int):=by exact rfl)
  (hk0:0<T.k:=by decide) (hm:j<xs.length:=by first|omega|(simp;done)|(simp;omega)|decide) (h:∀ p cs,At g.h p cs→T.rel g.h cs xs[j]→OD P fn n R ops k D g l ((d,.pointer (some p))::σ) η):OD P fn n R ops k D g (i::l) σ η:=OD.idx' ho ht he hx hy hzi hs hk0 hm h
theorem O.iy {α:Type} {T:Rp α} {xs:List α} {r:Fr} {i d j:Nat} {zi:Int} (hs:Arr T r v xs) (hr:r.sub g.h) (ho:Fires ops i n σ d (.indexAddr t x y):=by first|exact .p rfl|exact .g rfl rfl) (ht:P.underlying t=some (.slice e):=by exact zsl) (he:(P.info? e).map (·.size)=some T.k:=by exact zsz) (hx:ev σ x=some v:=by exact rfl) (hy:ev σ y=some (.int kd zi):=by exact rfl) (hzi:zi=(j:Int):=by exact rfl)
  (hk0:0<T.k:=by decide) (hm:j<xs.length:=by first|omega|(simp;done)|(simp;omega)|decide) (h:∀ p cs,At g.h p cs→T.rel r cs xs[j]→O ro P fn n R ops l k ((d,.pointer (some p))::σ) D g η):O ro P fn n R ops (i::l) k σ D g η:=O.idxR ho ht he hx hy hzi hs hr hk0 hm h
theorem OD.iy {α:Type} {T:Rp α} {xs:List α} {r:Fr} {i d j:Nat} {zi:Int} (hs:Arr T r v xs) (hr:r.sub g.h) (ho:Fires ops i n σ d (.indexAddr t x y):=by first|exact .p rfl|exact .g rfl rfl) (ht:P.underlying t=some (.slice e):=by exact zsl) (he:(P.info? e).map (·.size)=some T.k:=by exact zsz) (hx:ev σ x=some v:=by exact rfl) (hy:ev σ y=some (.int kd zi):=by exact rfl) (hzi:zi=(j:Int):=by exact rfl)
  (hk0:0<T.k:=by decide) (hm:j<xs.length:=by first|omega|(simp;done)|(simp;omega)|decide) (h:∀ p cs,At g.h p cs→T.rel r cs xs[j]→OD P fn n R ops k D g l ((d,.pointer (some p))::σ) η):OD P fn n R ops k D g (i::l) σ η:=OD.idxR ho ht he hx hy hzi hs hr hk0 hm h
theorem zA {α:Type} {T:Rp α} {h:Fr} {v:Value} {xs:List α} (q:Arr T h v xs:=by first|assumption|exact Arr.mono hg (by assumption)|exact Arr.left (by assumption)|exact Arr.left (Arr.mono hg (by assumption))):Arr T h v xs:=q
theorem zq {σ' σ:List (Nat × Value)} (h:Sub σ' σ:=by repeat (first|exact Sub.nil|refine Sub.cons rfl ?_)):Sub σ' σ:=h
theorem Con.o {f:FuncId} {args:Array Value} {r:Fr} {Post:Ending→List SProp→Prop} {c:Code} {vs:List Value} (hf:P.funcs[f]?=some fn) (h:∀ g:Gr,r.sub g.h→∀ R:Ending→World→Prop,(∀ e η' w',Post e η' →Holds w' g η' →R e w')→S none P fn n R [.code c] (slots vs 0) [] g η)
  (ha:args=vs.toArray:=by exact rfl) (hb:fn.body=some c:=by exact rfl) (hn:fn.ntmps=n:=by exact rfl) (hle:Nat.ble vs.length n=true:=by exact rfl):Con P f args r η Post:=Con.of vs ha hf hb hn hle h
theorem O.cs {l:List Nat} {b:Bool} {p q:Prop} (t:Nat) [tf:Tf b p q] (hl:look σ t=some (.bool b)) (ht:p→O ro P fn n R ops l k ((t,.bool true)::σ) D g η) (hf:q→O ro P fn n R ops l k ((t,.bool false)::σ) D g η):O ro P fn n R ops l k σ D g η:=O.caseB t hl (fun h=>ht (tf.t h)) fun h=>hf (tf.f h)
theorem OD.cs {l:List Nat} {b:Bool} {p q:Prop} (t:Nat) [tf:Tf b p q] (hl:look σ t=some (.bool b)) (ht:p→OD P fn n R ops k D g l ((t,.bool true)::σ) η) (hf:q→OD P fn n R ops k D g l ((t,.bool false)::σ) η):OD P fn n R ops k D g l σ η:=OD.caseB t hl (fun h=>ht (tf.t h)) fun h=>hf (tf.f h)
end
theorem zdf {p:Prop} [Decidable p] (h:¬p):decide p=false:=decide_eq_false h
theorem zdt {p:Prop} [Decidable p] (h:p):decide p=true:=decide_eq_true h
theorem zla {α:Type} {as bs:List α}:(as++bs).length=as.length+bs.length:=List.length_append
theorem zfs {a b c:Fr} (h:a.sub b) (k:b.sub c):a.sub c:=Fr.sub_trans h k
theorem zlc {α:Type} {a:α} {as:List α}:(a::as).length=as.length+1:=List.length_cons
theorem zlt {α:Type} {i:Nat} {as:List α}:(as.take i).length=min i as.length:=List.length_take
theorem zln {α:Type}:([]:List α).length=0:=List.length_nil
theorem zfc {α:Type} {l:List α} {L:List (List α)}:(l::L).flatten=l++L.flatten:=List.flatten_cons
theorem zaa {α:Type} (as bs cs:List α):as++bs++cs=as++(bs++cs):=List.append_assoc as bs cs
theorem zgl {α:Type} {as bs:List α} {i:Nat} (h:i<as.length) {h' :i<(as++bs).length}:(as++bs)[i]=as[i]:=List.getElem_append_left h
theorem ztg {α:Type} {l:List α} {i:Nat} (h:i<l.length):l.take (i+1)=l.take i++[l[i]]:=List.take_succ_eq_append_getElem h
theorem zB {p:Prop} (h:p:=by omega):p:=h
theorem zC {p:Prop} (h:p:=by kernel_rfl):p:=h
theorem zD {p:Prop} (h:p:=by repeat (first|exact zh|apply zt)):p:=h
theorem zE {p:Prop} (h:p:=by decide):p:=h
theorem zF {p:Prop} (h:p:=by rfl):p:=h
theorem zG {p:Prop} (h:p:=by repeat (first|exact zsn|(apply zsc;focus (repeat (first|exact zh|apply zt))))):p:=h
theorem zH {p:Prop} (h:p:=by first|omega|(simp;done)|(simp;omega)|decide):p:=h
theorem zI {p:Prop} (h:p:=by simp):p:=h
theorem zJ {p:Prop} (h:p:=by simp;omega):p:=h
theorem zK {p:Prop} (h:p:=by assumption):p:=h
theorem zL {p:Prop} (h:p:=by exact decide_eq_false (by omega)):p:=h
theorem zM {p:Prop} (h:p:=by first|(simp;done)|(simp [Value.cells];done)):p:=h
theorem zN {p:Prop} (h:p:=by first|rfl|assumption):p:=h
theorem zO {p:Prop} (h:p:=by exact decide_eq_true (by omega)):p:=h
theorem zP {p:Prop} (h:p:=by repeat (first|exact zpa|exact zpn|(apply zpc;focus (repeat (first|exact zh|apply zt)))|apply zps)):p:=h
theorem zQ {p:Prop} (h:p:=by first|omega|(simp;done)|(simp;omega)):p:=h
theorem zR {p:Prop} (h:p:=by simp;rfl):p:=h
theorem zS {p:Prop} (h:p:=by simp;exact ⟨rfl,rfl⟩):p:=h
theorem zT {p:Prop} (h:p:=by exact decide_eq_false (by simp;omega)):p:=h
theorem zU {p:Prop} (h:p:=by exact decide_eq_true (by simp;omega)):p:=h
theorem zV {p:Prop} (h:p:=by simp [Value.cells]):p:=h
theorem zW {p:Prop} (h:p:=by first|rfl|omega):p:=h
theorem zX {p:Prop} (h:p:=by first|(simp;done)|(simp;omega)):p:=h
end Go.Sp
end
end
