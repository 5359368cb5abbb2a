/- Texts of this proof, one behind the other. -/
import Derived.Test.YtojafegjlahajaaGreatDoorQSpTypes
import Derived.Laws.IdiomRangeMap
import Derived.Laws.Externs
import Derived.KernelRfl
section
/- Texts of this proof, one behind the other. -/
section
/- Texts of this proof, one behind the other. -/
section
/- Texts of this proof. -/
namespace Go.Sp
abbrev SEnt:=List UInt8 × Value × Nat
theorem str_beq (a b:List UInt8):(str a ==str b)=decide (a=b):=by
 show (ByteArray.beq (str a) (str b))=_
 unfold ByteArray.beq
 by_cases h:a=b
 ·subst h;simp
 ·simp [h,str]
section
variable {ro:Option Nat} {P:Program} {fn:Func} {n:Nat} {R:Ending→World→Prop} {k:List Item} {σ:List (Nat × Value)} {D:List Deferred} {g:Gr} {η ζ θ:List SProp} {ops:Array Oper} {i d:Nat} {ls:List Nat}
 {t tk te:TypeId} {x y z:Operand} {b c:Nat} {l:List SEnt} {key:List UInt8} {w:World}
theorem run_checkKey_str (hk:P.underlying tk=some .string) (e:Bool) (n:Nat):(Instr.checkKey e (n+1) tk (.string (str key))).run P w=.ok () w:=by
 simp only [Instr.checkKey,Sem.run_bind,run_underlying hk,Result.andThen]
 rfl
theorem run_next_at {ty bm since c0 clk r:Nat} {seen:Array Nat} {es:Array MapEntry} (hr:w.heap[r]?=some (.mapIter (some bm) since seen c0)) (hb:w.heap[bm]?=some (.map es clk)) (hold:∀ x∈es.toList,x.born<since) (hsc:since≤c0) :
  ((leftOf es seen).size=0∧(Instr.next (.pointer (some ⟨r,0,none⟩)) false ty).run P w=.ok (.tuple #[.bool false]) w) ∨
  ∃ e∈(leftOf es seen).toList,∃ n:Nat,w.drawn≤n∧(Instr.next (.pointer (some ⟨r,0,none⟩)) false ty).run P w=.ok (.tuple #[.bool true,e.key,e.val]) (({ w with drawn:=n }:World).putObj r (.mapIter (some bm) since (seen.push e.born) clk)):=by
 simp only [Instr.next,getObj,Sem.run_bind,Sem.run,hr,hb,Result.andThen,next_test_false seen es since c0 hold hsc,Bool.false_eq_true,if_false];unfold leftOf;have hmem:∀ x∈(Array.filter (fun e=>!seen.contains e.born) es).toList,x.born<since:=fun x hx=>hold x (by simp at hx ⊢;exact hx.1);generalize Array.filter (fun e=>!seen.contains e.born) es=L at hmem ⊢;have e1:L.filter (fun x=>decide (x.born<since))=L:=Array.filter_eq_self.2 (fun x hx=>by simpa using hmem x (by simpa using hx));have e2:L.filter (fun x=>decide (x.born≥since))=#[]:=by
  rw [Array.filter_eq_empty_iff]
  intro x hx
  have:=hmem x (by simpa using hx)
  simp
  omega
 simp only [e1,e2,Array.append_empty]
 by_cases h0:L.size=0
 ·left
  have:L=#[]:=Array.eq_empty_of_size_eq_zero h0;subst this;refine ⟨rfl,?_⟩
  simp [choose,Sem.run,Question.forced]
 ·right
  have hne:L.isEmpty=false:=by simp [Array.isEmpty,h0]
  simp only [hne,Bool.false_eq_true,if_false,Array.empty_append,Array.size_map];have hch:∃ (j n:Nat),j<L.size∧w.drawn≤n∧(choose (Question.mapNext L.size)).run P w=.ok j { w with drawn:=n }:=by
   by_cases hf:L.size≤1
   ·exact ⟨0,w.drawn,by omega,Nat.le_refl _,by simp [choose,Sem.run,Question.forced,hf]⟩
   ·exact ⟨_,w.drawn+1,Nat.mod_lt _ (by omega),Nat.le_succ _,by
     simp only [choose,Sem.run,Question.forced,decide_eq_true_eq,hf,if_false,Question.cut]
     rfl⟩
  obtain ⟨j,n,hj,hnn,hrun⟩:=hch;refine ⟨L[j],by simp,n,hnn,?_⟩;have hset:∀ (o' :Obj),(setObj r o').run P ({ w with drawn:=n }:World)=.ok () (({ w with drawn:=n }:World).putObj r o'):=fun o' =>by
   simp only [setObj,Sem.run];rw [show ({ w with drawn:=n }:World).heap[r]?=some (.mapIter (some bm) since seen c0) from hr]
   rfl
  simp only [hrun,Array.getElem?_map,Array.getElem?_eq_getElem hj,Option.map_some,Sem.run_bind,hset,Result.andThen]
  rfl
end
end Go.Sp
end
section
/- Texts of this proof, one behind the other. -/
section
/- Texts of this proof. -/
namespace Go.Sp
section
variable {ro:Option Nat} {P:Program} {fn:Func} {n:Nat} {R:Ending→World→Prop} {k:List Item} {σ:List (Nat × Value)} {D:List Deferred} {g:Gr} {η ζ θ:List SProp} {ops:Array Oper} {i d:Nat} {ls:List Nat}
 {t tk te e:TypeId} {x y z:Operand} {b c:Nat} {l:List SEnt} {w:World}
theorem str_get (xs:List UInt8) (j:Nat):(str xs)[j]?=xs[j]?:=by
 by_cases h:j<xs.length
 ·rw [List.getElem?_eq_getElem h,getElem?_pos (str xs) j (by rw [str_size];exact h)]
  rfl
 ·rw [List.getElem?_eq_none (by omega),getElem?_neg (str xs) j (by rw [str_size];exact h)]
theorem Does.indexS {xs:List UInt8} {kd:IntKind} {zi:Int} {j:Nat} (ht:P.underlying t=some .string) (hx:ev σ x=some (.string (str xs))) (hy:ev σ y=some (.int kd zi)) (hz:zi=(j:Int)) (hj:j<xs.length) :
  Does P (.index t x y) σ g η (byteV xs[j]) η:=.run fun o ρ w ho hk=>by
 subst hz;have h:=str_get xs j;rw [List.getElem?_eq_getElem hj] at h
 simp [execOp,ho,hk x _ hx,hk y _ hy,Instr.index,asIntOf,run_underlying ht,h]
 rfl
theorem Does.idxArr {kd:IntKind} {zi:Int} {j len bo off:Nat} (ht:P.underlying t=some (.array len e)) (he:(P.info? e).map (·.size)=some 1) (hx:ev σ x=some (.pointer (some ⟨bo,off,none⟩))) (hy:ev σ y=some (.int kd zi)) (hz:zi=(j:Int)) (hj:j<len) :
  Does P (.indexAddr t x y) σ g η (.pointer (some ⟨bo,off+j,none⟩)) η:=.run fun o ρ w ho hk=>by
 subst hz
 simp [execOp,ho,hk x _ hx,hk y _ hy,Instr.indexAt,Instr.sureAddr,asIntOf,run_underlying ht,hj,run_sizeOf he,Addr.add]
theorem Does.idxArrA {kd:IntKind} {zi:Int} {j len:Nat} {p:Addr} (ht:P.underlying t=some (.array len e)) (he:(P.info? e).map (·.size)=some 1) (hx:ev σ x=some (.pointer (some p))) (hy:ev σ y=some (.int kd zi)) (hz:zi=(j:Int)) (hj:j<len) :
  Does P (.indexAddr t x y) σ g η (.pointer (some (p.add j))) η:=.run fun o ρ w ho hk=>by
 subst hz
 simp [execOp,ho,hk x _ hx,hk y _ hy,Instr.indexAt,Instr.sureAddr,asIntOf,run_underlying ht,hj,run_sizeOf he]
def setV (cs:List UInt8):List Value:=(List.range 256).map fun i=>.bool (decide (i∈cs.map (·.toNat)))
@[simp] theorem setV_length (cs:List UInt8):(setV cs).length=256:=by simp [setV]
theorem run_equal_mapN {m:Option Nat} (ht:P.underlying t=some (.map tk te)):(Op.equal t (.map m) (.map none)).run P w=.ok m.isNone w:=by
 show (Op.equalIn (9999+1) t (.map m) (.map none)).run P w=.ok m.isNone w
 unfold Op.equalIn;simp only [Sem.run_bind,run_underlying ht,Result.andThen]
 cases m<;>rfl
theorem Does.neqM {m:Option Nat} {u:TypeId} (ht:P.underlying t=some (.map tk te)) (hx:ev σ x=some (.map m)) (hy:ev σ y=some (.map none)):Does P (.binOp .neq t x y u) σ g η (.bool m.isSome) η :=
 .run fun o ρ w ho hk=>by
  simp [execOp,ho,hk x _ hx,hk y _ hy,eqGuard,Go.binOp,run_equal_mapN (w:=w) (m:=m) ht]
  try cases m<;>rfl
end
end Go.Sp
end
section
/- Texts of this proof, one behind the other. -/
section
/- Texts of this proof. -/
namespace Go.Sp
abbrev SS:=List (List UInt8 × List UInt8 × Nat)
def sumT (m:SS):Nat:=(m.map fun x=>x.2.1.length).sum
section
variable {ro:Option Nat} {P:Program} {fn:Func} {n:Nat} {R:Ending→World→Prop} {k:List Item} {σ:List (Nat × Value)} {D:List Deferred} {g:Gr} {η ζ θ:List SProp} {ops:Array Oper} {i d:Nat} {ls:List Nat}
 {t tk te:TypeId} {x y z:Operand} {b c:Nat} {m:SS} {key v:List UInt8} {w:World}
end
end Go.Sp
end
section
/- Texts of this proof. -/
namespace Go.Sp
variable {ro:Option Nat} {P:Program} {fn:Func} {n:Nat} {R:Ending→World→Prop} {k:List Item} {σ:List (Nat × Value)} {D:List Deferred} {g:Gr} {η:List SProp}
theorem S.reloop {c:Code} (h:S ro P fn n R (.code c::.inLoop c::k) σ D g η):S ro P fn n R (.inLoop c::k) σ D g η :=
 fun a w hf hd hw=>.step (fun _ _=>stepR_inLoop) (h a w hf hd hw)
section
variable {ops:Array Oper} {l:List Nat} {i d:Nat} {T:TypeId} {x:Operand} {v:Value} {cs:List Value}
end
end Go.Sp
end
end
end
end
section
/- Texts of this proof. -/
namespace Go.Sp
section
variable {ro:Option Nat} {P:Program} {fn:Func} {n:Nat} {R:Ending→World→Prop} {ops:Array Oper} {k:List Item} {σ:List (Nat × Value)} {D:List Deferred} {g:Gr} {η ζ θ:List SProp} {t e:TypeId} {x y:Operand}
theorem S.frzH {todo:List Item} {B:SProp} (s:Sel η B ζ) (h:∀ g' :Gr,g.h.sub g'.h→(∃ m:Fr,B m∧m.sub g'.h)→(∀ {w:World} {θ:List SProp},Holds w g' θ→Holds w g (B::θ))→S ro P fn n R todo σ D g' ζ):S ro P fn n R todo σ D g η :=
 S.sel s (S.freeze fun m hm hd=>h (g.add m) (Fr.sub_add_left _ _) ⟨m,hm,Fr.sub_add_right hd⟩ fun hw=>hw.thaw hm hd)
theorem OD.last1 {g0:Gr} {T:TypeId} {b i j:Nat} {cs:List Value} {v:Value} (ho:opAtU ops j=some (.store t x y)) (hl:lastOk ops j=true) (hth:∀ w,Holds w g η→Holds w g0 ζ) (ht:flat1 P t=true) (hx:ev σ x=some (.pointer (some ⟨b,i,none⟩))) (hy:ev σ y=some v)
  (h1:v.oneCell' =true) (hs:Sel ζ (obj b T cs) θ) (hc:i<cs.length) (h:S none P fn n R k σ D g0 (obj b T (cs.set i v)::θ)):OD P fn n R ops k D g [j] σ η :=
 .one rfl (.lastU ho rfl hl (fun o ρ w q1 q2 q3=>let ⟨w',a,b⟩:=DoesU.store1 ht hx hy h1 hs hc o ρ w q1 q2 (hth w q3);⟨w',.skip,a,.inl rfl,b⟩) h)
theorem S.fold {todo:List Item} {A:SProp} {bs:List SProp} (hA:∀ m,Sat bs m→A m) (h:S ro P fn n R todo σ D g (A::ζ)):S ro P fn n R todo σ D g (bs++ζ) :=
 S.imp' (η:=bs++ζ) (ζ:=A::ζ) (fun m hm=>by
  obtain ⟨m1,m2,d,s1,s2,x,y⟩:=Sat.split hm;exact ⟨m1,m2,d,s1,s2,hA _ x,y⟩) h
theorem S.open {todo:List Item} {α:Type} {A:SProp} {bs:α→List SProp} (s:Sel η A ζ) (hA:∀ m,A m→∃ x,Sat (bs x) m) (h:∀ x,S ro P fn n R todo σ D g (bs x++ζ)):S ro P fn n R todo σ D g η :=
 S.sel s (S.entail (ζ:=[fun m=>∃ x,Sat (bs x) m]) (fun m hm=>⟨m,Fr.emp,Fr.disj_symm (Fr.emp_disj _),Fr.sub_refl _,Fr.emp_sub _,hA m hm,trivial⟩) (S.exi fun x=>S.entail (fun _ q=>q) (h x)))
theorem S.ownIs {todo:List Item} {α:Type} {T:Rp α} {e:TypeId} {v v' :Value} {xs xs' :List α} (s:Sel η (OwnP T e v xs) ζ) (hv:v=v') (hx:xs=xs') (h:S ro P fn n R todo σ D g (OwnP T e v' xs' ::ζ)):S ro P fn n R todo σ D g η:=by
 subst hv hx;exact S.sel s h
theorem look_app (a b:List (Nat × Value)) (t:Nat):look (a++b) t=match look a t with|some v=>some v|none=>look b t:=by
 induction a with
 |nil=>rfl
 |cons x a ih =>
  cases hq:x.1.beq t
  ·simp only [List.cons_append,look,hq];exact ih
  ·simp only [List.cons_append,look,hq]
theorem Sub.app {a b σ:List (Nat × Value)} (ha:Sub a σ) (hb:Sub b σ):Sub (a++b) σ:=fun t v h=>by
 rw [look_app] at h
 cases hq:look a t with
 |some u=>rw [hq] at h;exact ha t v (by rw [hq];exact h)
 |none=>rw [hq] at h;exact hb t v h
theorem S.regionJ {α:Type} {L:List Nat} {id:Nat} (lv:α→List (Nat × Value)) (σ0:List (Nat × Value)) (η' :α→List SProp) (_:Sub σ0 σ) (hm:P.follows .mixedOrders=true) (hok:orderOk P n ops L=true)
  (h1:∀ kk,(∀ x,S none P fn n R kk (lv x++σ0) D g (η' x))→OD P fn n R ops kk D g L σ η) (h2:∀ x,S none P fn n R k (lv x++σ0) D g (η' x)):S none P fn n R (.code (.region id ops true)::k) σ D g η :=
 S.regionD hm hok (h1 k h2)
theorem S.cut1 {ro:Option Nat} {α:Type} {i0:Item} {kk:List Item} (φ:α→Prop) (lv:α→List (Nat × Value)) (σ0:List (Nat × Value)) (η' :α→List SProp) (_:Sub σ0 σ)
  (h1:(∀ x,φ x→S ro P fn n R kk (lv x++σ0) D g (η' x))→S ro P fn n R (i0::kk) σ D g η) (h2:∀ x,φ x→S ro P fn n R kk (lv x++σ0) D g (η' x)):S ro P fn n R (i0::kk) σ D g η:=h1 h2
theorem S.cut2 {ro:Option Nat} {α:Type} {i0 i1:Item} {kk:List Item} (φ:α→Prop) (lv:α→List (Nat × Value)) (σ0:List (Nat × Value)) (η' :α→List SProp) (_:Sub σ0 σ)
  (h1:(∀ x,φ x→S ro P fn n R kk (lv x++σ0) D g (η' x))→S ro P fn n R (i0::i1::kk) σ D g η) (h2:∀ x,φ x→S ro P fn n R kk (lv x++σ0) D g (η' x)):S ro P fn n R (i0::i1::kk) σ D g η:=h1 h2
theorem DoesE.strBytesO {t2:TypeId} {xs:List UInt8} (ht:P.underlying t=some .string) (ht2:P.underlying t2=some (.slice e)) (he:P.underlying e=some (.int .u8)) (hx:ev σ x=some (.string (str xs))) (hl:xs.length≤9223372036854775807) :
  DoesE P (.convert t t2 x) σ g η fun u η' =>∃ a c,u=.slice a xs.length c∧η' =OwnP Rp.u8 e u xs::η :=
 fun o ρ w ho hk hw=>by
  have hr:=Lib.run_convert_string_bytes (P:=P) w t t2 e (str xs) ht ht2 he;have ho' :(execOp ρ o).run P w=.ok (.value (.slice (some ⟨w.heap.size,0,none⟩) (str xs).size (grownCap w (str xs).size 0 e))) (Lib.bytesWorld w e (str xs)):=by
   simp [execOp,ho,hk x _ hx,hr]
  have hge:=grownCap_ge w (str xs).size 0 e;have hcm:=grownCap_le_maxLen w (str xs).size 0 e (by simpa [maxLen] using hl);rw [str_size] at hge hcm;have hh:Holds (Lib.bytesWorld w e (str xs)) g (blk w.heap.size (.cells (Lib.bytesCells w e (str xs)) e ((Lib.bytesCells w e (str xs)).size,(Lib.bytesCells w e (str xs)).size+1))::η):=by
   have h1:Holds (w.drew.alloc (.cells (Lib.bytesCells w e (str xs)) e)) g (blk w.heap.size (.cells (Lib.bytesCells w e (str xs)) e)::η):=(hw.drewN (w.drawn+1) (Nat.le_add_right _ _)).alloc _;refine h1.setBlock (Lib.bytesWorld_at_new w e (str xs)) ?_ rfl rfl rfl
   intro i hi
   have:w.heap.size≠i:=fun h=>hi h.symm
   simp [Lib.bytesWorld,World.freeze,Array.getElem?_modify,this]
  have hsz:(Lib.bytesCells w e (str xs)).size=grownCap w xs.length 0 e:=by
   simp only [Lib.bytesCells,Array.size_append,Array.size_map,Array.size_replicate,str_size]
   simp [str];omega
  have e1:(xs.map (fun b=>[byteV b])).flatten=xs.map byteV:=by
   clear hx hl hr ho' hge hcm hh hsz
   induction xs with
   |nil=>rfl
   |cons a xs ih=>simp [ih]
  refine ⟨_,_,_,⟨some ⟨w.heap.size,0,none⟩,grownCap w xs.length 0 e,by rw [str_size],rfl⟩,ho',?_⟩;rw [str_size];refine (hh.ownF (k:=1) (m:=xs.length) (cap:=grownCap w xs.length 0 e) (cs:=(xs.map (fun b=>[byteV b])).flatten) (fun j hj h=>by have h1:=h.1;simp only [hsz] at h1;omega) hge (by simpa [maxLen] using hcm) (by rw [hsz];simp) ?_).imp fun _ =>
   Sat.cons_imp (OwnP.of (T:=Rp.u8) (css:=xs.map fun b=>[byteV b]) (all2_map (fun _=>rfl) xs) rfl rfl rfl) fun _ q=>q
  rw [e1];simp only [Lib.bytesCells,Nat.mul_one]
  simp [str,byteV]
theorem ODg.strBytesO {fl:Bool} {i d:Nat} {t2:TypeId} {xs:List UInt8} {l:List Nat} (ho:Fires ops i n σ d (.convert t t2 x)) (hd:hdOk fl ops i l=true) (ht:P.underlying t=some .string) (ht2:P.underlying t2=some (.slice e)) (he:P.underlying e=some (.int .u8)) (hx:ev σ x=some (.string (str xs))) (hl:xs.length≤9223372036854775807)
  (h:∀ a c,OD P fn n R ops k D g l ((d,.slice a xs.length c)::σ) (OwnP Rp.u8 e (.slice a xs.length c) xs::η)):ODx P fn n R ops k D g fl (i::l) σ η :=
 ODg.loudE (K:=fun u η' =>∃ a c,u=.slice a xs.length c∧η' =OwnP Rp.u8 e u xs::η) ho rfl hd
  (fun ζ=>(DoesE.strBytesO (η:=η++ζ) ht ht2 he hx hl).imp fun v η' ⟨a,c,h1,h2⟩=>⟨_,⟨a,c,h1,rfl⟩,h2⟩) (by rintro v _ ⟨a,c,rfl,rfl⟩;exact h a c)
theorem OD.strBytesO {i d:Nat} {t2:TypeId} {xs:List UInt8} {l:List Nat} (ho:Fires ops i n σ d (.convert t t2 x)) (hd:descOk ops [i] l=true) (ht:P.underlying t=some .string) (ht2:P.underlying t2=some (.slice e)) (he:P.underlying e=some (.int .u8)) (hx:ev σ x=some (.string (str xs))) (hl:xs.length≤9223372036854775807)
  (h:∀ a c,OD P fn n R ops k D g l ((d,.slice a xs.length c)::σ) (OwnP Rp.u8 e (.slice a xs.length c) xs::η)):OD P fn n R ops k D g (i::l) σ η:=ODg.strBytesO (fl:=false) ho (by simpa [hdOk] using hd) ht ht2 he hx hl h
theorem ODt.strBytesO {i d:Nat} {t2:TypeId} {xs:List UInt8} {l:List Nat} (ho:Fires ops i n σ d (.convert t t2 x)) (_:true=true) (ht:P.underlying t=some .string) (ht2:P.underlying t2=some (.slice e)) (he:P.underlying e=some (.int .u8)) (hx:ev σ x=some (.string (str xs))) (hl:xs.length≤9223372036854775807)
  (h:∀ a c,OD P fn n R ops k D g l ((d,.slice a xs.length c)::σ) (OwnP Rp.u8 e (.slice a xs.length c) xs::η)):ODx P fn n R ops k D g true (i::l) σ η:=ODg.strBytesO (fl:=true) ho rfl ht ht2 he hx hl h
end
end Go.Sp
end
end
section
/- Texts of this proof, one behind the other. -/
section
/- Texts of this proof. -/
namespace Go.Sp
theorem EachP.of_sat {β α:Type} {A:β→α→SProp}:∀ {bs:List β} {as:List α} {m:Fr},bs.length=as.length→Sat (List.zipWith A bs as) m→EachP A bs as m
 |[],[],_,_,_=>trivial
 |[],_::_,_,h,_=>by cases h
 |_::_,[],_,h,_=>by cases h
 |b::bs,a::as,m,hl,h=>by
  obtain ⟨h1,h2,d,s1,s2,x,y⟩:=h;exact ⟨h1,h2,d,s1,s2,x,h2,Fr.emp,Fr.disj_symm (Fr.emp_disj _),Fr.sub_refl _,Fr.emp_sub _,EachP.of_sat (by simpa using hl) y,trivial⟩
section
variable {ro:Option Nat} {P:Program} {fn:Func} {n:Nat} {R:Ending→World→Prop} {σ:List (Nat × Value)} {D:List Deferred} {g:Gr} {η ζ:List SProp} {todo:List Item} {ops:Array Oper} {L:List Nat} {k:List Item}
theorem S.foldS {A:SProp} {bs:List SProp} (hb:Sels η bs ζ) (hA:∀ m,Sat bs m→A m) (h:S ro P fn n R todo σ D g (A::ζ)):S ro P fn n R todo σ D g η :=
 S.perm hb.perm (S.fold hA h)
theorem S.eachOf {β α:Type} (A:β→α→SProp) {bs:List β} {ys:List α} (hb:Sels η (List.zipWith A bs ys) ζ) (hl:bs.length=ys.length) (h:S ro P fn n R todo σ D g (EachP A bs ys::ζ)):S ro P fn n R todo σ D g η :=
 S.foldS hb (fun _ z=>EachP.of_sat hl z) h
end
theorem less_eq:∀ x y:List UInt8,Op.bytesLess x y=decide (x<y)
 |x,[]=>by cases x<;>simp [Op.bytesLess]
 |[],_::_=>by simp [Op.bytesLess]
 |a::x,b::y=>by
  rw [Op.bytesLess,less_eq x y];rw [Bool.eq_iff_iff]
  simp [List.cons_lt_cons_iff]
theorem lssS_eq (x y:List UInt8):Op.bytesLess (str x).toList (str y).toList=decide (x<y):=by rw [str_toList,str_toList,less_eq]
theorem S.back {ro:Option Nat} {P:Program} {fn:Func} {n:Nat} {R:Ending→World→Prop} {σ:List (Nat × Value)} {D:List Deferred} {g g' :Gr} {η:List SProp} {todo:List Item} {B:SProp} (hb:∀ {w:World} {θ:List SProp},Holds w g' θ→Holds w g (B::θ)) (h:S ro P fn n R todo σ D g (B::η)):S ro P fn n R todo σ D g' η :=
 fun a w hf hd hw=>h a w hf hd (hb hw)
theorem backR {g g' :Gr} {B:SProp} {Post:Ending→List SProp→Prop} {R:Ending→World→Prop} (hR:∀ e η' w',Post e η' →Holds w' g η' →R e w') (hb:∀ {w:World} {θ:List SProp},Holds w g' θ→Holds w g (B::θ)) :
  ∀ e η' w',Post e η' →Holds w' g' η' →R e w' :=fun e η' w' p h=>hR e η' w' p (hb h).drop
def Rp.comap {α β:Type} (f:α→β) (T:Rp β):Rp α:={ k:=T.k,rel:=fun h cs a=>T.rel h cs (f a),len:=fun h=>T.len h,mono:=fun s h=>T.mono s h,one:=fun h=>T.one h }
theorem Fr.sub.mono {a b c:Fr} (h:a.sub b) (k:b.sub c):a.sub c:=Fr.sub_trans h k
section
variable {ro:Option Nat} {P:Program} {fn:Func} {n:Nat} {R:Ending→World→Prop} {ops:Array Oper} {K:List Item} {σ:List (Nat × Value)} {D:List Deferred} {g:Gr} {η:List SProp} {i d:Nat} {l:List Nat} {t e:TypeId} {x y:Operand} {v:Value} {kd:IntKind} {j:Nat} {r:Fr}
theorem idx_doesR {α:Type} {T:Rp α} {xs:List α} (ht:P.underlying t=some (.slice e)) (he:(P.info? e).map (·.size)=some T.k) (hx:ev σ x=some v) {zi:Int} (hy:ev σ y=some (.int kd zi)) (hzi:zi=(j:Int))
  (hs:Arr T r v xs) (hk0:0<T.k) (hm:j<xs.length):∃ p cs,(∀ η,Does P (.indexAddr t x y) σ g η (.pointer (some p)) η)∧At r p cs∧T.rel r cs xs[j]:=by
 subst hzi;obtain ⟨css,ha,hsl⟩:=hs;obtain ⟨a,cap,rfl,h1,h2,h3,h4⟩:=hsl
 cases a with
 |none =>
  have:0<css.flatten.length:=by rw [h3];exact Nat.mul_pos (by omega) hk0
  obtain ⟨p,hp,_⟩:=h4 0 this
  cases hp
 |some a =>
  have hj:j<css.length:=by rw [ha.length];exact hm
  refine ⟨a.add (j*T.k),css[j],fun η=>.run fun o ρ w ho hk=>?_,?_,ha.get j hj hm⟩
  ·have hij:(j:Int)<(xs.length:Int):=by omega
   simp [execOp,ho,hk x _ hx,hk y _ hy,Instr.indexAt,asIntOf,run_underlying ht,hm,run_sizeOf he]
  ·rw [← ha.flat_get j hj]
   intro q hq
   rw [Addr.add_add];have hq' :j*T.k+q<css.flatten.length:=by simp only [List.length_take,List.length_drop] at hq;omega
   obtain ⟨p,hp,hc⟩:=h4 _ hq'
   cases hp
   rw [hc];simp
theorem O.idxR {α:Type} {T:Rp α} {xs:List α} (ho:Fires ops i n σ d (.indexAddr t x y)) (ht:P.underlying t=some (.slice e)) (he:(P.info? e).map (·.size)=some T.k) (hx:ev σ x=some v)
  {zi:Int} (hy:ev σ y=some (.int kd zi)) (hzi:zi=(j:Int)) (hs:Arr T r v xs) (hr:r.sub g.h) (hk0:0<T.k) (hm:j<xs.length)
  (h:∀ p cs,At g.h p cs→T.rel r cs xs[j]→O ro P fn n R ops l K ((d,.pointer (some p))::σ) D g η):O ro P fn n R ops (i::l) K σ D g η:=by
 obtain ⟨p,cs,h1,h2,h3⟩:=idx_doesR (g:=g) ht he hx hy hzi hs hk0 hm;exact O.op ho (h1 η) (h p cs (h2.mono hr) h3)
end
end Go.Sp
end
section
/- Texts of this proof. -/
namespace Go.Sp
theorem pk {η η' :List SProp} {Q:List SProp→Prop} (h:Q η') (hp:Picks η η' :=by repeat (first|exact zpa|exact zpn|(apply zpc;focus (repeat (first|exact zh|apply zt)))|apply zps)):∃ η',Q η' ∧Picks η η' :=⟨η',h,hp⟩
section
variable {ro:Option Nat} {P:Program} {fn:Func} {n:Nat} {R:Ending→World→Prop} {k:List Item} {σ σ' :List (Nat × Value)} {D:List Deferred} {g:Gr} {η ζ:List SProp} {ops:Array Oper} {L l:List Nat} {todo:List Item} {t e:TypeId} {x y:Operand} {v:Value}
theorem S.rt {s:Tmp} {Post:Ending→List SProp→Prop} {η' :List SProp} (hr:fn.results=#[.tmp s]) (hl:look σ s=some v) (hR:∀ e η' w',Post e η' →Holds w' g η' →R e w') (h:Post (.returned v) η')
  (hp:Picks η η' :=by repeat (first|exact zpa|exact zpn|(apply zpc;focus (repeat (first|exact zh|apply zt)))|apply zps)):S none P fn n R (.code .ret::k) σ [] g η :=
 S.ret hr hl fun _ hw=>Holds.end_ hR hw ⟨η',h,hp⟩
theorem S.pw (h:S ro P fn n R todo σ' D g ζ) (hs:Sub σ' σ:=by repeat (first|exact Sub.nil|refine Sub.cons rfl ?_))
  (hp:Picks η ζ:=by repeat (first|exact zpa|exact zpn|(apply zpc;focus (repeat (first|exact zh|apply zt)))|apply zps)):S ro P fn n R todo σ D g η:=S.pk hp (S.weaken hs h)
theorem S.wk (h:S ro P fn n R todo σ' D g η) (hs:Sub σ' σ:=by repeat (first|exact Sub.nil|refine Sub.cons rfl ?_)):S ro P fn n R todo σ D g η:=S.weaken hs h
theorem O.sT {b:Bool} (s:Nat) (hl:look σ s=some (.bool b)) (e:b=true) (h:O ro P fn n R ops L k ((s,.bool true)::σ) D g η):O ro P fn n R ops L k σ D g η:=O.slot s hl (congrArg Value.bool e) h
theorem O.sF {b:Bool} (s:Nat) (hl:look σ s=some (.bool b)) (e:b=false) (h:O ro P fn n R ops L k ((s,.bool false)::σ) D g η):O ro P fn n R ops L k σ D g η:=O.slot s hl (congrArg Value.bool e) h
theorem OD.sT {b:Bool} (s:Nat) (hl:look σ s=some (.bool b)) (e:b=true) (h:OD P fn n R ops k D g L ((s,.bool true)::σ) η):OD P fn n R ops k D g L σ η:=OD.slot s hl (congrArg Value.bool e) h
theorem OD.sF {b:Bool} (s:Nat) (hl:look σ s=some (.bool b)) (e:b=false) (h:OD P fn n R ops k D g L ((s,.bool false)::σ) η):OD P fn n R ops k D g L σ η:=OD.slot s hl (congrArg Value.bool e) h
theorem Does.lo {T:TypeId} {b j:Nat} {cs:List Value} (ht:flat1 P t=true) (hx:ev σ x=some (.pointer (some ⟨b,j,none⟩)):=by exact rfl) (hs:Sel η (obj b T cs) ζ:=by repeat (first|exact zh|apply zt)) (hj:cs[j]?=some v:=by exact rfl):Does P (.load t x) σ g η v η:=.loadObj ht hx hs hj
theorem Does.loA {T:TypeId} {b i:Nat} {cs news:List Value} (ht:∀ w,(isAgg t).run P w=.ok true w) (hsz:(P.info? t).map (·.size)=some news.length:=by kernel_rfl) (hx:ev σ x=some (.pointer (some ⟨b,i,none⟩)):=by exact rfl)
  (hs:Sel η (obj b T cs) ζ:=by repeat (first|exact zh|apply zt)) (hn:(cs.drop i).take news.length=news:=by exact rfl):Does P (.load t x) σ g η (.agg news.toArray) η:=.loadObjAgg ht hsz hx hs hn
theorem O.ia {α:Type} {T:Rp α} {xs:List α} {i d j:Nat} {kd:IntKind} {zi:Int} (ho:Fires ops i n σ d (.indexAddr t x y)) (ht:P.underlying t=some (.slice e)) (he:(P.info? e).map (·.size)=some T.k) (hx:ev σ x=some v) (hy:ev σ y=some (.int kd zi)) (hzi:zi=(j:Int)) (hs:Arr T g.h v xs)
  (hk0:0<T.k:=by decide) (hm:j<xs.length:=by first|omega|(simp;done)|(simp;omega)|decide) (h:∀ p cs,At g.h p cs→T.rel g.h cs xs[j]→O ro P fn n R ops l k ((d,.pointer (some p))::σ) D g η):O ro P fn n R ops (i::l) k σ D g η:=O.idx' ho ht he hx hy hzi hs hk0 hm h
theorem OD.ia {α:Type} {T:Rp α} {xs:List α} {i d j:Nat} {kd:IntKind} {zi:Int} (ho:Fires ops i n σ d (.indexAddr t x y)) (ht:P.underlying t=some (.slice e)) (he:(P.info? e).map (·.size)=some T.k) (hx:ev σ x=some v) (hy:ev σ y=some (.int kd zi)) (hzi:zi=(j:Int)) (hs:Arr T g.h v xs)
  (hk0:0<T.k:=by decide) (hm:j<xs.length:=by first|omega|(simp;done)|(simp;omega)|decide) (h:∀ p cs,At g.h p cs→T.rel g.h cs xs[j]→OD P fn n R ops k D g l ((d,.pointer (some p))::σ) η):OD P fn n R ops k D g (i::l) σ η:=OD.idx' ho ht he hx hy hzi hs hk0 hm h
theorem O.ib {α:Type} {T:Rp α} {xs:List α} {r:Fr} {i d j:Nat} {kd:IntKind} {zi:Int} (ho:Fires ops i n σ d (.indexAddr t x y)) (ht:P.underlying t=some (.slice e)) (he:(P.info? e).map (·.size)=some T.k) (hx:ev σ x=some v) (hy:ev σ y=some (.int kd zi)) (hzi:zi=(j:Int)) (hs:Arr T r v xs) (hr:r.sub g.h)
  (hk0:0<T.k:=by decide) (hm:j<xs.length:=by first|omega|(simp;done)|(simp;omega)|decide) (h:∀ p cs,At g.h p cs→T.rel r cs xs[j]→O ro P fn n R ops l k ((d,.pointer (some p))::σ) D g η):O ro P fn n R ops (i::l) k σ D g η:=O.idxR ho ht he hx hy hzi hs hr hk0 hm h
end
end Go.Sp
end
end
