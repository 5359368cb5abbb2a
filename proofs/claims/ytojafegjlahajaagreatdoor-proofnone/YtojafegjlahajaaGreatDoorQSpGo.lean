/- Texts of this proof, one behind the other. -/
import Derived.Test.YtojafegjlahajaaGreatDoorQSpLoop
import Derived.KernelRfl
set_option linter.unusedSectionVars false
section
/- Texts of this proof, one behind the other. -/
section
/- Texts of this proof. -/
namespace Go.Sp
section
variable {ro:Option Nat} {P:Program} {fn:Func} {n:Nat} {R:Ending→World→Prop} {ops:Array Oper} {k:List Item} {σ:List (Nat × Value)} {D:List Deferred} {g:Gr} {η ζ θ:List SProp} {t e:TypeId} {x y:Operand}
theorem S.frzH {todo:List Item} {B:SProp} (s:Sel η B ζ) (h:∀ g' :Gr,g.h.sub g'.h→(∃ m:Fr,B m∧m.sub g'.h)→(∀ {w:World} {θ:List SProp},Holds w g' θ→Holds w g (B::θ))→S ro P fn n R todo σ D g' ζ):S ro P fn n R todo σ D g η :=
 S.sel s (S.freeze fun m hm hd=>h (g.add m) (Fr.sub_add_left _ _) ⟨m,hm,Fr.sub_add_right hd⟩ fun hw=>hw.thaw hm hd)
theorem OD.last1 {g0:Gr} {T:TypeId} {b i j:Nat} {cs:List Value} {v:Value} (ho:opAtU ops j=some (.store t x y)) (hl:lastOk ops j=true) (hth:∀ w,Holds w g η→Holds w g0 ζ) (ht:flat1 P t=true) (hx:ev σ x=some (.pointer (some ⟨b,i,none⟩))) (hy:ev σ y=some v)
  (h1:v.oneCell' =true) (hs:Sel ζ (obj b T cs) θ) (hc:i<cs.length) (h:S none P fn n R k σ D g0 (obj b T (cs.set i v)::θ)):OD P fn n R ops k D g [j] σ η :=
 .one rfl (.lastU ho rfl hl (fun o ρ w q1 q2 q3=>let ⟨w',a,b⟩:=DoesU.store1 ht hx hy h1 hs hc o ρ w q1 q2 (hth w q3);⟨w',.skip,a,.inl rfl,b⟩) h)
theorem S.fold {todo:List Item} {A:SProp} {bs:List SProp} (hA:∀ m,Sat bs m→A m) (h:S ro P fn n R todo σ D g (A::ζ)):S ro P fn n R todo σ D g (bs++ζ) :=
 S.imp' (η:=bs++ζ) (ζ:=A::ζ) (fun m hm=>by
  obtain ⟨m1,m2,d,s1,s2,x,y⟩:=Sat.split hm;exact ⟨m1,m2,d,s1,s2,hA _ x,y⟩) h
theorem S.open {todo:List Item} {α:Type} {A:SProp} {bs:α→List SProp} (s:Sel η A ζ) (hA:∀ m,A m→∃ x,Sat (bs x) m) (h:∀ x,S ro P fn n R todo σ D g (bs x++ζ)):S ro P fn n R todo σ D g η :=
 S.sel s (S.entail (ζ:=[fun m=>∃ x,Sat (bs x) m]) (fun m hm=>⟨m,Fr.emp,Fr.disj_symm (Fr.emp_disj _),Fr.sub_refl _,Fr.emp_sub _,hA m hm,trivial⟩) (S.exi fun x=>S.entail (fun _ q=>q) (h x)))
theorem S.ownIs {todo:List Item} {α:Type} {T:Rp α} {e:TypeId} {v v' :Value} {xs xs' :List α} (s:Sel η (OwnP T e v xs) ζ) (hv:v=v') (hx:xs=xs') (h:S ro P fn n R todo σ D g (OwnP T e v' xs' ::ζ)):S ro P fn n R todo σ D g η:=by
 subst hv hx;exact S.sel s h
theorem look_app (a b:List (Nat × Value)) (t:Nat):look (a++b) t=match look a t with|some v=>some v|none=>look b t:=by
 induction a with
 |nil=>rfl
 |cons x a ih =>
  cases hq:x.1.beq t
  ·simp only [List.cons_append,look,hq];exact ih
  ·simp only [List.cons_append,look,hq]
theorem Sub.app {a b σ:List (Nat × Value)} (ha:Sub a σ) (hb:Sub b σ):Sub (a++b) σ:=fun t v h=>by
 rw [look_app] at h
 cases hq:look a t with
 |some u=>rw [hq] at h;exact ha t v (by rw [hq];exact h)
 |none=>rw [hq] at h;exact hb t v h
theorem S.regionJ {α:Type} {L:List Nat} {id:Nat} (lv:α→List (Nat × Value)) (σ0:List (Nat × Value)) (η' :α→List SProp) (_:Sub σ0 σ) (hm:P.follows .mixedOrders=true) (hok:orderOk P n ops L=true)
  (h1:∀ kk,(∀ x,S none P fn n R kk (lv x++σ0) D g (η' x))→OD P fn n R ops kk D g L σ η) (h2:∀ x,S none P fn n R k (lv x++σ0) D g (η' x)):S none P fn n R (.code (.region id ops true)::k) σ D g η :=
 S.regionD hm hok (h1 k h2)
theorem S.cut2 {ro:Option Nat} {α:Type} {i0 i1:Item} {kk:List Item} (φ:α→Prop) (lv:α→List (Nat × Value)) (σ0:List (Nat × Value)) (η' :α→List SProp) (_:Sub σ0 σ)
  (h1:(∀ x,φ x→S ro P fn n R kk (lv x++σ0) D g (η' x))→S ro P fn n R (i0::i1::kk) σ D g η) (h2:∀ x,φ x→S ro P fn n R kk (lv x++σ0) D g (η' x)):S ro P fn n R (i0::i1::kk) σ D g η:=h1 h2
theorem DoesE.strBytesO {t2:TypeId} {xs:List UInt8} (ht:P.underlying t=some .string) (ht2:P.underlying t2=some (.slice e)) (he:P.underlying e=some (.int .u8)) (hx:ev σ x=some (.string (str xs))) (hl:xs.length≤9223372036854775807) :
  DoesE P (.convert t t2 x) σ g η fun u η' =>∃ a c,u=.slice a xs.length c∧η' =OwnP Rp.u8 e u xs::η :=
 fun o ρ w ho hk hw=>by
  have hr:=Lib.run_convert_string_bytes (P:=P) w t t2 e (str xs) ht ht2 he;have ho' :(execOp ρ o).run P w=.ok (.value (.slice (some ⟨w.heap.size,0,none⟩) (str xs).size (grownCap w (str xs).size 0 e))) (Lib.bytesWorld w e (str xs)):=by
   simp [execOp,ho,hk x _ hx,hr]
  have hge:=grownCap_ge w (str xs).size 0 e;have hcm:=grownCap_le_maxLen w (str xs).size 0 e (by simpa [maxLen] using hl);rw [str_size] at hge hcm;have hh:Holds (Lib.bytesWorld w e (str xs)) g (blk w.heap.size (.cells (Lib.bytesCells w e (str xs)) e ((Lib.bytesCells w e (str xs)).size,(Lib.bytesCells w e (str xs)).size+1))::η):=by
   have h1:Holds (w.drew.alloc (.cells (Lib.bytesCells w e (str xs)) e)) g (blk w.heap.size (.cells (Lib.bytesCells w e (str xs)) e)::η):=(hw.drewN (w.drawn+1) (Nat.le_add_right _ _)).alloc _;refine h1.setBlock (Lib.bytesWorld_at_new w e (str xs)) ?_ rfl rfl rfl
   intro i hi
   have:w.heap.size≠i:=fun h=>hi h.symm
   simp [Lib.bytesWorld,World.freeze,Array.getElem?_modify,this]
  have hsz:(Lib.bytesCells w e (str xs)).size=grownCap w xs.length 0 e:=by
   simp only [Lib.bytesCells,Array.size_append,Array.size_map,Array.size_replicate,str_size]
   simp [str];omega
  have e1:(xs.map (fun b=>[byteV b])).flatten=xs.map byteV:=by
   clear hx hl hr ho' hge hcm hh hsz
   induction xs with
   |nil=>rfl
   |cons a xs ih=>simp [ih]
  refine ⟨_,_,_,⟨some ⟨w.heap.size,0,none⟩,grownCap w xs.length 0 e,by rw [str_size],rfl⟩,ho',?_⟩;rw [str_size];refine (hh.ownF (k:=1) (m:=xs.length) (cap:=grownCap w xs.length 0 e) (cs:=(xs.map (fun b=>[byteV b])).flatten) (fun j hj h=>by have h1:=h.1;simp only [hsz] at h1;omega) hge (by simpa [maxLen] using hcm) (by rw [hsz];simp) ?_).imp fun _ =>
   Sat.cons_imp (OwnP.of (T:=Rp.u8) (css:=xs.map fun b=>[byteV b]) (all2_map (fun _=>rfl) xs) rfl rfl rfl) fun _ q=>q
  rw [e1];simp only [Lib.bytesCells,Nat.mul_one]
  simp [str,byteV]
theorem ODg.strBytesO {fl:Bool} {i d:Nat} {t2:TypeId} {xs:List UInt8} {l:List Nat} (ho:Fires ops i n σ d (.convert t t2 x)) (hd:hdOk fl ops i l=true) (ht:P.underlying t=some .string) (ht2:P.underlying t2=some (.slice e)) (he:P.underlying e=some (.int .u8)) (hx:ev σ x=some (.string (str xs))) (hl:xs.length≤9223372036854775807)
  (h:∀ a c,OD P fn n R ops k D g l ((d,.slice a xs.length c)::σ) (OwnP Rp.u8 e (.slice a xs.length c) xs::η)):ODx P fn n R ops k D g fl (i::l) σ η :=
 ODg.loudE (K:=fun u η' =>∃ a c,u=.slice a xs.length c∧η' =OwnP Rp.u8 e u xs::η) ho rfl hd
  (fun ζ=>(DoesE.strBytesO (η:=η++ζ) ht ht2 he hx hl).imp fun v η' ⟨a,c,h1,h2⟩=>⟨_,⟨a,c,h1,rfl⟩,h2⟩) (by rintro v _ ⟨a,c,rfl,rfl⟩;exact h a c)
theorem OD.strBytesO {i d:Nat} {t2:TypeId} {xs:List UInt8} {l:List Nat} (ho:Fires ops i n σ d (.convert t t2 x)) (hd:descOk ops [i] l=true) (ht:P.underlying t=some .string) (ht2:P.underlying t2=some (.slice e)) (he:P.underlying e=some (.int .u8)) (hx:ev σ x=some (.string (str xs))) (hl:xs.length≤9223372036854775807)
  (h:∀ a c,OD P fn n R ops k D g l ((d,.slice a xs.length c)::σ) (OwnP Rp.u8 e (.slice a xs.length c) xs::η)):OD P fn n R ops k D g (i::l) σ η:=ODg.strBytesO (fl:=false) ho (by simpa [hdOk] using hd) ht ht2 he hx hl h
theorem ODt.strBytesO {i d:Nat} {t2:TypeId} {xs:List UInt8} {l:List Nat} (ho:Fires ops i n σ d (.convert t t2 x)) (_:true=true) (ht:P.underlying t=some .string) (ht2:P.underlying t2=some (.slice e)) (he:P.underlying e=some (.int .u8)) (hx:ev σ x=some (.string (str xs))) (hl:xs.length≤9223372036854775807)
  (h:∀ a c,OD P fn n R ops k D g l ((d,.slice a xs.length c)::σ) (OwnP Rp.u8 e (.slice a xs.length c) xs::η)):ODx P fn n R ops k D g true (i::l) σ η:=ODg.strBytesO (fl:=true) ho rfl ht ht2 he hx hl h
end
end Go.Sp
end
section
/- Texts of this proof, one behind the other. -/
section
/- Texts of this proof. -/
namespace Go.Sp
theorem EachP.of_sat {β α:Type} {A:β→α→SProp}:∀ {bs:List β} {as:List α} {m:Fr},bs.length=as.length→Sat (List.zipWith A bs as) m→EachP A bs as m
 |[],[],_,_,_=>trivial
 |[],_::_,_,h,_=>by cases h
 |_::_,[],_,h,_=>by cases h
 |b::bs,a::as,m,hl,h=>by
  obtain ⟨h1,h2,d,s1,s2,x,y⟩:=h;exact ⟨h1,h2,d,s1,s2,x,h2,Fr.emp,Fr.disj_symm (Fr.emp_disj _),Fr.sub_refl _,Fr.emp_sub _,EachP.of_sat (by simpa using hl) y,trivial⟩
section
variable {ro:Option Nat} {P:Program} {fn:Func} {n:Nat} {R:Ending→World→Prop} {σ:List (Nat × Value)} {D:List Deferred} {g:Gr} {η ζ:List SProp} {todo:List Item} {ops:Array Oper} {L:List Nat} {k:List Item}
theorem S.foldS {A:SProp} {bs:List SProp} (hb:Sels η bs ζ) (hA:∀ m,Sat bs m→A m) (h:S ro P fn n R todo σ D g (A::ζ)):S ro P fn n R todo σ D g η :=
 S.perm hb.perm (S.fold hA h)
theorem S.eachOf {β α:Type} (A:β→α→SProp) {bs:List β} {ys:List α} (hb:Sels η (List.zipWith A bs ys) ζ) (hl:bs.length=ys.length) (h:S ro P fn n R todo σ D g (EachP A bs ys::ζ)):S ro P fn n R todo σ D g η :=
 S.foldS hb (fun _ z=>EachP.of_sat hl z) h
end
theorem less_eq:∀ x y:List UInt8,Op.bytesLess x y=decide (x<y)
 |x,[]=>by cases x<;>simp [Op.bytesLess]
 |[],_::_=>by simp [Op.bytesLess]
 |a::x,b::y=>by
  rw [Op.bytesLess,less_eq x y];rw [Bool.eq_iff_iff]
  simp [List.cons_lt_cons_iff]
theorem lssS_eq (x y:List UInt8):Op.bytesLess (str x).toList (str y).toList=decide (x<y):=by rw [str_toList,str_toList,less_eq]
theorem S.back {ro:Option Nat} {P:Program} {fn:Func} {n:Nat} {R:Ending→World→Prop} {σ:List (Nat × Value)} {D:List Deferred} {g g' :Gr} {η:List SProp} {todo:List Item} {B:SProp} (hb:∀ {w:World} {θ:List SProp},Holds w g' θ→Holds w g (B::θ)) (h:S ro P fn n R todo σ D g (B::η)):S ro P fn n R todo σ D g' η :=
 fun a w hf hd hw=>h a w hf hd (hb hw)
theorem backR {g g' :Gr} {B:SProp} {Post:Ending→List SProp→Prop} {R:Ending→World→Prop} (hR:∀ e η' w',Post e η' →Holds w' g η' →R e w') (hb:∀ {w:World} {θ:List SProp},Holds w g' θ→Holds w g (B::θ)) :
  ∀ e η' w',Post e η' →Holds w' g' η' →R e w' :=fun e η' w' p h=>hR e η' w' p (hb h).drop
def Rp.comap {α β:Type} (f:α→β) (T:Rp β):Rp α:={ k:=T.k,rel:=fun h cs a=>T.rel h cs (f a),len:=fun h=>T.len h,mono:=fun s h=>T.mono s h,one:=fun h=>T.one h }
section
variable {ro:Option Nat} {P:Program} {fn:Func} {n:Nat} {R:Ending→World→Prop} {ops:Array Oper} {K:List Item} {σ:List (Nat × Value)} {D:List Deferred} {g:Gr} {η:List SProp} {i d:Nat} {l:List Nat} {t e:TypeId} {x y:Operand} {v:Value} {kd:IntKind} {j:Nat} {r:Fr}
theorem idx_doesR {α:Type} {T:Rp α} {xs:List α} (ht:P.underlying t=some (.slice e)) (he:(P.info? e).map (·.size)=some T.k) (hx:ev σ x=some v) {zi:Int} (hy:ev σ y=some (.int kd zi)) (hzi:zi=(j:Int))
  (hs:Arr T r v xs) (hk0:0<T.k) (hm:j<xs.length):∃ p cs,(∀ η,Does P (.indexAddr t x y) σ g η (.pointer (some p)) η)∧At r p cs∧T.rel r cs xs[j]:=by
 subst hzi;obtain ⟨css,ha,hsl⟩:=hs;obtain ⟨a,cap,rfl,h1,h2,h3,h4⟩:=hsl
 cases a with
 |none =>
  have:0<css.flatten.length:=by rw [h3];exact Nat.mul_pos (by omega) hk0
  obtain ⟨p,hp,_⟩:=h4 0 this
  cases hp
 |some a =>
  have hj:j<css.length:=by rw [ha.length];exact hm
  refine ⟨a.add (j*T.k),css[j],fun η=>.run fun o ρ w ho hk=>?_,?_,ha.get j hj hm⟩
  ·have hij:(j:Int)<(xs.length:Int):=by omega
   simp [execOp,ho,hk x _ hx,hk y _ hy,Instr.indexAt,asIntOf,run_underlying ht,hm,run_sizeOf he]
  ·rw [← ha.flat_get j hj]
   intro q hq
   rw [Addr.add_add];have hq' :j*T.k+q<css.flatten.length:=by simp only [List.length_take,List.length_drop] at hq;omega
   obtain ⟨p,hp,hc⟩:=h4 _ hq'
   cases hp
   rw [hc];simp
theorem O.idxR {α:Type} {T:Rp α} {xs:List α} (ho:Fires ops i n σ d (.indexAddr t x y)) (ht:P.underlying t=some (.slice e)) (he:(P.info? e).map (·.size)=some T.k) (hx:ev σ x=some v)
  {zi:Int} (hy:ev σ y=some (.int kd zi)) (hzi:zi=(j:Int)) (hs:Arr T r v xs) (hr:r.sub g.h) (hk0:0<T.k) (hm:j<xs.length)
  (h:∀ p cs,At g.h p cs→T.rel r cs xs[j]→O ro P fn n R ops l K ((d,.pointer (some p))::σ) D g η):O ro P fn n R ops (i::l) K σ D g η:=by
 obtain ⟨p,cs,h1,h2,h3⟩:=idx_doesR (g:=g) ht he hx hy hzi hs hk0 hm;exact O.op ho (h1 η) (h p cs (h2.mono hr) h3)
end
end Go.Sp
end
section
/- Texts of this proof. -/
namespace Go.Sp
theorem pk {η η' :List SProp} {Q:List SProp→Prop} (h:Q η') (hp:Picks η η' :=by repeat (first|exact zpa|exact zpn|(apply zpc;focus (repeat (first|exact zh|apply zt)))|apply zps)):∃ η',Q η' ∧Picks η η' :=⟨η',h,hp⟩
section
variable {ro:Option Nat} {P:Program} {fn:Func} {n:Nat} {R:Ending→World→Prop} {k:List Item} {σ σ' :List (Nat × Value)} {D:List Deferred} {g:Gr} {η ζ:List SProp} {ops:Array Oper} {L l:List Nat} {todo:List Item} {t e:TypeId} {x y:Operand} {v:Value}
theorem S.rt {s:Tmp} {Post:Ending→List SProp→Prop} {η' :List SProp} (hr:fn.results=#[.tmp s]) (hl:look σ s=some v) (hR:∀ e η' w',Post e η' →Holds w' g η' →R e w') (h:Post (.returned v) η')
  (hp:Picks η η' :=by repeat (first|exact zpa|exact zpn|(apply zpc;focus (repeat (first|exact zh|apply zt)))|apply zps)):S none P fn n R (.code .ret::k) σ [] g η :=
 S.ret hr hl fun _ hw=>Holds.end_ hR hw ⟨η',h,hp⟩
theorem S.pw (h:S ro P fn n R todo σ' D g ζ) (hs:Sub σ' σ:=by repeat (first|exact Sub.nil|refine Sub.cons rfl ?_))
  (hp:Picks η ζ:=by repeat (first|exact zpa|exact zpn|(apply zpc;focus (repeat (first|exact zh|apply zt)))|apply zps)):S ro P fn n R todo σ D g η:=S.pk hp (S.weaken hs h)
theorem S.wk (h:S ro P fn n R todo σ' D g η) (hs:Sub σ' σ:=by repeat (first|exact Sub.nil|refine Sub.cons rfl ?_)):S ro P fn n R todo σ D g η:=S.weaken hs h
theorem O.sT {b:Bool} (s:Nat) (hl:look σ s=some (.bool b)) (e:b=true) (h:O ro P fn n R ops L k ((s,.bool true)::σ) D g η):O ro P fn n R ops L k σ D g η:=O.slot s hl (congrArg Value.bool e) h
theorem O.sF {b:Bool} (s:Nat) (hl:look σ s=some (.bool b)) (e:b=false) (h:O ro P fn n R ops L k ((s,.bool false)::σ) D g η):O ro P fn n R ops L k σ D g η:=O.slot s hl (congrArg Value.bool e) h
theorem OD.sT {b:Bool} (s:Nat) (hl:look σ s=some (.bool b)) (e:b=true) (h:OD P fn n R ops k D g L ((s,.bool true)::σ) η):OD P fn n R ops k D g L σ η:=OD.slot s hl (congrArg Value.bool e) h
theorem OD.sF {b:Bool} (s:Nat) (hl:look σ s=some (.bool b)) (e:b=false) (h:OD P fn n R ops k D g L ((s,.bool false)::σ) η):OD P fn n R ops k D g L σ η:=OD.slot s hl (congrArg Value.bool e) h
theorem Does.lo {T:TypeId} {b j:Nat} {cs:List Value} (ht:flat1 P t=true) (hx:ev σ x=some (.pointer (some ⟨b,j,none⟩)):=by exact rfl) (hs:Sel η (obj b T cs) ζ:=by repeat (first|exact zh|apply zt)) (hj:cs[j]?=some v:=by exact rfl):Does P (.load t x) σ g η v η:=.loadObj ht hx hs hj
theorem Does.loA {T:TypeId} {b i:Nat} {cs news:List Value} (ht:∀ w,(isAgg t).run P w=.ok true w) (hsz:(P.info? t).map (·.size)=some news.length:=by kernel_rfl) (hx:ev σ x=some (.pointer (some ⟨b,i,none⟩)):=by exact rfl)
  (hs:Sel η (obj b T cs) ζ:=by repeat (first|exact zh|apply zt)) (hn:(cs.drop i).take news.length=news:=by exact rfl):Does P (.load t x) σ g η (.agg news.toArray) η:=.loadObjAgg ht hsz hx hs hn
theorem O.ia {α:Type} {T:Rp α} {xs:List α} {i d j:Nat} {kd:IntKind} {zi:Int} (ho:Fires ops i n σ d (.indexAddr t x y)) (ht:P.underlying t=some (.slice e)) (he:(P.info? e).map (·.size)=some T.k) (hx:ev σ x=some v) (hy:ev σ y=some (.int kd zi)) (hzi:zi=(j:Int)) (hs:Arr T g.h v xs)
  (hk0:0<T.k:=by decide) (hm:j<xs.length:=by first|omega|(simp;done)|(simp;omega)|decide) (h:∀ p cs,At g.h p cs→T.rel g.h cs xs[j]→O ro P fn n R ops l k ((d,.pointer (some p))::σ) D g η):O ro P fn n R ops (i::l) k σ D g η:=O.idx' ho ht he hx hy hzi hs hk0 hm h
theorem OD.ia {α:Type} {T:Rp α} {xs:List α} {i d j:Nat} {kd:IntKind} {zi:Int} (ho:Fires ops i n σ d (.indexAddr t x y)) (ht:P.underlying t=some (.slice e)) (he:(P.info? e).map (·.size)=some T.k) (hx:ev σ x=some v) (hy:ev σ y=some (.int kd zi)) (hzi:zi=(j:Int)) (hs:Arr T g.h v xs)
  (hk0:0<T.k:=by decide) (hm:j<xs.length:=by first|omega|(simp;done)|(simp;omega)|decide) (h:∀ p cs,At g.h p cs→T.rel g.h cs xs[j]→OD P fn n R ops k D g l ((d,.pointer (some p))::σ) η):OD P fn n R ops k D g (i::l) σ η:=OD.idx' ho ht he hx hy hzi hs hk0 hm h
theorem O.ib {α:Type} {T:Rp α} {xs:List α} {r:Fr} {i d j:Nat} {kd:IntKind} {zi:Int} (ho:Fires ops i n σ d (.indexAddr t x y)) (ht:P.underlying t=some (.slice e)) (he:(P.info? e).map (·.size)=some T.k) (hx:ev σ x=some v) (hy:ev σ y=some (.int kd zi)) (hzi:zi=(j:Int)) (hs:Arr T r v xs) (hr:r.sub g.h)
  (hk0:0<T.k:=by decide) (hm:j<xs.length:=by first|omega|(simp;done)|(simp;omega)|decide) (h:∀ p cs,At g.h p cs→T.rel r cs xs[j]→O ro P fn n R ops l k ((d,.pointer (some p))::σ) D g η):O ro P fn n R ops (i::l) k σ D g η:=O.idxR ho ht he hx hy hzi hs hr hk0 hm h
end
end Go.Sp
end
end
end
section
/- Texts of this proof. -/
namespace Go.Sp
class CSl (P:Program) (t:TypeId) (e:outParam TypeId):Prop where h:P.underlying t=some (.slice e)
class CStr (P:Program) (t:TypeId):Prop where h:P.underlying t=some .string
class CFl (P:Program) (t:TypeId):Prop where h:flat1 P t=true
class CFo (P:Program) (s f:Nat) (o:outParam Nat):Prop where h:fieldOff P s f=some o
theorem zsl {P:Program} {t e:TypeId} [i:CSl P t e]:P.underlying t=some (.slice e):=i.h
theorem zst {P:Program} {t:TypeId} [i:CStr P t]:P.underlying t=some .string:=i.h
theorem zfl {P:Program} {t:TypeId} [i:CFl P t]:flat1 P t=true:=i.h
theorem zfo {P:Program} {s f o:Nat} [i:CFo P s f o]:fieldOff P s f=some o:=i.h
section
variable {P:Program} {σ:List (Nat × Value)} {g:Gr} {η:List SProp}
theorem Does.len1 {t:TypeId} {x:Operand} {e:TypeId} [CSl P t e] {a:Option Addr} {m c:Nat} (hx:ev σ x=some (.slice a m c)):Does P (.call ⟨.builtin .len,#[x],#[t]⟩) σ g η (.int .i64 (m:Int)) η:=.len (t:=t) rfl zsl hx
theorem Does.loadK {t:TypeId} {x:Operand} {p:Addr} {j:Nat} {cs:List Value} {v:Value} (ht:flat1 P t=true) (hx:ev σ x=some (.pointer (some (p.add j)))) (hp:At g.h p cs) (hv:cs[j]?=some v):Does P (.load t x) σ g η v η:=.loadAt ht hx (hp.drop j) (by rw [List.getElem?_drop];exact hv)
theorem Does.loadKK {t:TypeId} {x:Operand} {p:Addr} {i j:Nat} {cs:List Value} {v:Value} (ht:flat1 P t=true) (hx:ev σ x=some (.pointer (some ((p.add i).add j)))) (hp:At g.h p cs) (hv:cs[i+j]?=some v):Does P (.load t x) σ g η v η:=.loadK ht (p:=p) (j:=i+j) (by rw [hx,Addr.add_add]) hp hv
class CAg (P:Program) (t:TypeId) (k:outParam Nat):Prop where
 h:∀ w,(isAgg t).run P w=.ok true w
 s:(P.info? t).map (·.size)=some k
def nrm {α:Type}:List α→Option (List α)
 |[]=>some []
 |a::l=>(nrm l).map (a::·)
theorem nrm_eq {α:Type}:∀ {l m:List α},nrm l=some m→l=m
 |[],_,h=>by cases h;rfl
 |a::l,m,h=>by
  obtain ⟨q,h1,h2⟩:=Option.map_eq_some_iff.1 h;rw [nrm_eq h1];exact h2
theorem Does.loZ {t:TypeId} {x:Operand} {T:TypeId} {b i K:Nat} {cs news:List Value} {ζ:List SProp} [c:CAg P t K] (hx:ev σ x=some (.pointer (some ⟨b,i,none⟩))) (hs:Sel η (obj b T cs) ζ) (hn:nrm ((cs.drop i).take K)=some news) (hl:news.length=K):Does P (.load t x) σ g η (.agg news.toArray) η :=
 .loadObjAgg c.h (by rw [hl];exact c.s) hx hs (by rw [hl];exact nrm_eq hn)
theorem Does.lenS1 {t:TypeId} {x:Operand} [CStr P t] {s:ByteArray} (hx:ev σ x=some (.string s)):Does P (.call ⟨.builtin .len,#[x],#[t]⟩) σ g η (.int .i64 (s.size:Int)) η:=.lenS (t:=t) rfl zst hx
end
theorem Does.fieldOwn {P:Program} {σ:List (Nat × Value)} {g:Gr} {η ζ:List SProp} {s f off b i:Nat} {x:Operand} {T:TypeId} {cs:List Value} (h:fieldOff P s f=some off) (hx:ev σ x=some (.pointer (some ⟨b,i,none⟩))) (_:Sel η (obj b T cs) ζ):Does P (.fieldAddr s x f) σ g η (.pointer (some ⟨b,i+off,none⟩)) η:=.fieldObj h hx
inductive Steps:Nat→Prop→Prop→Prop
 |z {A:Prop}:Steps 0 A A
 |s {n:Nat} {A B C:Prop} (f:C→A) (k:Steps n B C):Steps (n+1) B A
theorem Steps.run {n:Nat} {A B:Prop} (h:Steps n B A):B→A:=by
 induction h with
 |z=>exact id
 |s f _ ih=>exact fun b=>f (ih b)
theorem zz {A B:Prop} (n:Nat) (h:B) (f:Steps n B A:=by repeat (first|exact Steps.z|(apply Steps.s;focus (first|(with_reducible exact S.seq)|((with_reducible apply O.q 1);exact rfl)|(with_reducible exact O.nil)|((with_reducible apply S.region);exact rfl)|((with_reducible apply OD.q 1);exact rfl)|(with_reducible exact S.skip)|(with_reducible exact S.block)|(with_reducible exact S.inBlock)|((with_reducible apply S.exit);exact rfl)|((with_reducible apply S.condT);exact rfl)|((with_reducible apply S.condF);exact rfl)|(with_reducible exact S.unroll)|(with_reducible exact S.reloop)|(with_reducible exact ODx.nil)|(apply O.op;exact .p rfl;(first|exact Does.len1 rfl|exact Does.lss rfl rfl|exact Does.fieldOwn zfo rfl (by repeat (first|exact zh|apply zt))|exact Does.fieldAddr zfo rfl|exact Does.lo zfl|exact Does.loZ rfl (by repeat (first|exact zh|apply zt)) (by exact rfl) (by exact rfl)|exact Does.loadAt zfl rfl (by assumption) (by exact rfl)|exact Does.loadK zfl rfl (by assumption) (by exact rfl)|exact Does.loadKK zfl rfl (by assumption) (by exact rfl)|exact Does.add rfl rfl (IntWalk.i64_in _ (by omega))|exact Does.not rfl|exact Does.nilCheck rfl|exact Does.eql rfl rfl|exact Does.neq rfl rfl|exact Does.gtr rfl rfl|exact Does.leq rfl rfl|exact Does.geq rfl rfl|exact Does.lenS1 rfl|exact Does.mkFunc rfl rfl))|(apply O.op;exact .g rfl rfl;(first|exact Does.len1 rfl|exact Does.lss rfl rfl|exact Does.fieldOwn zfo rfl (by repeat (first|exact zh|apply zt))|exact Does.fieldAddr zfo rfl|exact Does.lo zfl|exact Does.loZ rfl (by repeat (first|exact zh|apply zt)) (by exact rfl) (by exact rfl)|exact Does.loadAt zfl rfl (by assumption) (by exact rfl)|exact Does.loadK zfl rfl (by assumption) (by exact rfl)|exact Does.loadKK zfl rfl (by assumption) (by exact rfl)|exact Does.add rfl rfl (IntWalk.i64_in _ (by omega))|exact Does.not rfl|exact Does.nilCheck rfl|exact Does.eql rfl rfl|exact Does.neq rfl rfl|exact Does.gtr rfl rfl|exact Does.leq rfl rfl|exact Does.geq rfl rfl|exact Does.lenS1 rfl|exact Does.mkFunc rfl rfl))|(apply O.opU;exact rfl;(first|exact DoesU.store1 zfl rfl rfl (by first|rfl|assumption) (by repeat (first|exact zh|apply zt)) (by first|(simp;done)|(simp [Value.cells];done))|exact DoesU.storeObj (by kernel_rfl) rfl rfl rfl rfl (by repeat (first|exact zh|apply zt)) (by first|(simp;done)|(simp [Value.cells];done))))|(apply ODx.quiet;exact .p rfl;exact rfl;(intro _;first|exact Does.fieldAddr zfo rfl|exact Does.loadAt zfl rfl (by assumption) (by exact rfl)|exact Does.loadK zfl rfl (by assumption) (by exact rfl)|exact Does.loadKK zfl rfl (by assumption) (by exact rfl)|exact Does.len1 rfl|exact Does.lss rfl rfl|exact Does.not rfl|exact Does.nilCheck rfl|exact Does.eql rfl rfl|exact Does.neq rfl rfl|exact Does.gtr rfl rfl|exact Does.leq rfl rfl|exact Does.geq rfl rfl|exact Does.add rfl rfl (IntWalk.i64_in _ (by omega))|exact Does.sub rfl rfl (IntWalk.i64_in _ (by omega))|exact Does.lenS1 rfl))|(apply ODx.quiet;exact .g rfl rfl;exact rfl;(intro _;first|exact Does.fieldAddr zfo rfl|exact Does.loadAt zfl rfl (by assumption) (by exact rfl)|exact Does.loadK zfl rfl (by assumption) (by exact rfl)|exact Does.loadKK zfl rfl (by assumption) (by exact rfl)|exact Does.len1 rfl|exact Does.lss rfl rfl|exact Does.not rfl|exact Does.nilCheck rfl|exact Does.eql rfl rfl|exact Does.neq rfl rfl|exact Does.gtr rfl rfl|exact Does.leq rfl rfl|exact Does.geq rfl rfl|exact Does.add rfl rfl (IntWalk.i64_in _ (by omega))|exact Does.sub rfl rfl (IntWalk.i64_in _ (by omega))|exact Does.lenS1 rfl)))))):A:=f.run h
class Tf (b:Bool) (p q:outParam Prop):Prop where
 t:b=true→p
 f:b=false→q
instance (priority:=high) {p:Prop} [Decidable p]:Tf (decide p) p (¬p):=⟨of_decide_eq_true,of_decide_eq_false⟩
instance (priority:=low) {b:Bool}:Tf b (b=true) (b=false):=⟨id,id⟩
section
variable {ro:Option Nat} {P:Program} {fn:Func} {n:Nat} {R:Ending→World→Prop} {k:List Item} {σ:List (Nat × Value)} {D:List Deferred} {g:Gr} {η ζ:List SProp} {ops:Array Oper} {i d:Nat} {l:List Nat} {x:Operand}
theorem S.cd {c:Operand} {x y:Code} {b:Bool} {p q:Prop} [tf:Tf b p q] (hc:ev σ c=some (.bool b)) (ht:p→S ro P fn n R (.code x::k) σ D g η) (hf:q→S ro P fn n R (.code y::k) σ D g η):S ro P fn n R (.code (.cond c x y)::k) σ D g η :=
 S.condB hc (fun h=>ht (tf.t h)) fun h=>hf (tf.f h)
theorem O.v0 {f:FuncId} {xs:Array Operand} {ts:Array TypeId} {vals:List Value} {V:Value} {first cap:Array Value} (ho:Fires ops i n σ d (.call ⟨.value x,xs,ts⟩)) (hx:ev σ x=some (.func (.func f) first cap)) (hc:callable P f=true)
  (hv:evs σ xs.toList=some vals) {args:Array Value} (hargs:first++vals.toArray++cap=args) (con:Con P f args g.h [] (Ret fun v η=>v=V∧η=[]))
  (h:O ro P fn n R ops l k ((d,V)::σ) D g η):O ro P fn n R ops (i::l) k σ D g η:=O.call0 ho hx hc hv hargs con fun _ _ ⟨e1,e2⟩=>by subst e1 e2;exact h
theorem O.vS {f:FuncId} {xs:Array Operand} {ts:Array TypeId} {vals:List Value} {V:Value} {bs:List SProp} {first cap:Array Value} {A:SProp} (ho:Fires ops i n σ d (.call ⟨.value x,xs,ts⟩)) (hx:ev σ x=some (.func (.func f) first cap)) (hc:callable P f=true)
  (hv:evs σ xs.toList=some vals) {args:Array Value} (hargs:first++vals.toArray++cap=args) (hs:Sel η A ζ) (con:Con P f args g.h [A] (Ret fun v η=>v=V∧η=bs))
  (h:O ro P fn n R ops l k ((d,V)::σ) D g (bs++ζ)):O ro P fn n R ops (i::l) k σ D g η:=O.callS ho hx hc hv hargs hs con fun _ _ ⟨e1,e2⟩=>by subst e1 e2;exact h
theorem OD.v0 {f:FuncId} {xs:Array Operand} {ts:Array TypeId} {vals:List Value} {V:Value} {first cap:Array Value} (ho:Fires ops i n σ d (.call ⟨.value x,xs,ts⟩)) (hd:descOk ops [i] l=true) (hx:ev σ x=some (.func (.func f) first cap)) (hc:callable P f=true)
  (hv:evs σ xs.toList=some vals) {args:Array Value} (hargs:first++vals.toArray++cap=args) (con:Con P f args g.h [] (Ret fun v η=>v=V∧η=[]))
  (h:OD P fn n R ops k D g l ((d,V)::σ) η):OD P fn n R ops k D g (i::l) σ η:=OD.call0 ho hd hx hc hv hargs con fun _ _ ⟨e1,e2⟩=>by subst e1 e2;exact h
variable {t e:TypeId} {y:Operand} {v:Value} {kd:IntKind}
class CSz (P:Program) (e:TypeId) (k:outParam Nat):Prop where h:(P.info? e).map (·.size)=some k
theorem zsz {k:Nat} [i:CSz P e k]:(P.info? e).map (·.size)=some k:=i.h
theorem O.iz {α:Type} {T:Rp α} {xs:List α} {i d j:Nat} {zi:Int} (hs:Arr T g.h v xs) (ho:Fires ops i n σ d (.indexAddr t x y):=by first|exact .p rfl|exact .g rfl rfl) (ht:P.underlying t=some (.slice e):=by exact zsl) (he:(P.info? e).map (·.size)=some T.k:=by exact zsz) (hx:ev σ x=some v:=by exact rfl) (hy:ev σ y=some (.int kd zi):=by exact rfl) (hzi:zi=(j:Int):=by exact rfl)
  (hk0:0<T.k:=by decide) (hm:j<xs.length:=by first|omega|(simp;done)|(simp;omega)|decide) (h:∀ p cs,At g.h p cs→T.rel g.h cs xs[j]→O ro P fn n R ops l k ((d,.pointer (some p))::σ) D g η):O ro P fn n R ops (i::l) k σ D g η:=O.idx' ho ht he hx hy hzi hs hk0 hm h
theorem OD.iz {α:Type} {T:Rp α} {xs:List α} {i d j:Nat} {zi:Int} (hs:Arr T g.h v xs) (ho:Fires ops i n σ d (.indexAddr t x y):=by first|exact .p rfl|exact .g rfl rfl) (ht:P.underlying t=some (.slice e):=by exact zsl) (he:(P.info? e).map (·.size)=some T.k:=by exact zsz) (hx:ev σ x=some v:=by exact rfl) (hy:ev σ y=some (.int kd zi):=by exact rfl) (hzi:zi=(j:Int):=by exact rfl)
  (hk0:0<T.k:=by decide) (hm:j<xs.length:=by first|omega|(simp;done)|(simp;omega)|decide) (h:∀ p cs,At g.h p cs→T.rel g.h cs xs[j]→OD P fn n R ops k D g l ((d,.pointer (some p))::σ) η):OD P fn n R ops k D g (i::l) σ η:=OD.idx' ho ht he hx hy hzi hs hk0 hm h
theorem O.iy {α:Type} {T:Rp α} {xs:List α} {r:Fr} {i d j:Nat} {zi:Int} (hs:Arr T r v xs) (hr:r.sub g.h) (ho:Fires ops i n σ d (.indexAddr t x y):=by first|exact .p rfl|exact .g rfl rfl) (ht:P.underlying t=some (.slice e):=by exact zsl) (he:(P.info? e).map (·.size)=some T.k:=by exact zsz) (hx:ev σ x=some v:=by exact rfl) (hy:ev σ y=some (.int kd zi):=by exact rfl) (hzi:zi=(j:Int):=by exact rfl)
  (hk0:0<T.k:=by decide) (hm:j<xs.length:=by first|omega|(simp;done)|(simp;omega)|decide) (h:∀ p cs,At g.h p cs→T.rel r cs xs[j]→O ro P fn n R ops l k ((d,.pointer (some p))::σ) D g η):O ro P fn n R ops (i::l) k σ D g η:=O.idxR ho ht he hx hy hzi hs hr hk0 hm h
theorem zA {α:Type} {T:Rp α} {h:Fr} {v:Value} {xs:List α} (q:Arr T h v xs:=by first|assumption|exact Arr.mono hg (by assumption)|exact Arr.left (by assumption)|exact Arr.left (Arr.mono hg (by assumption))):Arr T h v xs:=q
theorem zq {σ' σ:List (Nat × Value)} (h:Sub σ' σ:=by repeat (first|exact Sub.nil|refine Sub.cons rfl ?_)):Sub σ' σ:=h
theorem Con.o {f:FuncId} {args:Array Value} {r:Fr} {Post:Ending→List SProp→Prop} {c:Code} {vs:List Value} (hf:P.funcs[f]?=some fn) (h:∀ g:Gr,r.sub g.h→∀ R:Ending→World→Prop,(∀ e η' w',Post e η' →Holds w' g η' →R e w')→S none P fn n R [.code c] (slots vs 0) [] g η)
  (ha:args=vs.toArray:=by exact rfl) (hb:fn.body=some c:=by exact rfl) (hn:fn.ntmps=n:=by exact rfl) (hle:Nat.ble vs.length n=true:=by exact rfl):Con P f args r η Post:=Con.of vs ha hf hb hn hle h
theorem O.cs {l:List Nat} {b:Bool} {p q:Prop} (t:Nat) [tf:Tf b p q] (hl:look σ t=some (.bool b)) (ht:p→O ro P fn n R ops l k ((t,.bool true)::σ) D g η) (hf:q→O ro P fn n R ops l k ((t,.bool false)::σ) D g η):O ro P fn n R ops l k σ D g η:=O.caseB t hl (fun h=>ht (tf.t h)) fun h=>hf (tf.f h)
theorem OD.cs {l:List Nat} {b:Bool} {p q:Prop} (t:Nat) [tf:Tf b p q] (hl:look σ t=some (.bool b)) (ht:p→OD P fn n R ops k D g l ((t,.bool true)::σ) η) (hf:q→OD P fn n R ops k D g l ((t,.bool false)::σ) η):OD P fn n R ops k D g l σ η:=OD.caseB t hl (fun h=>ht (tf.t h)) fun h=>hf (tf.f h)
end
theorem zdf {p:Prop} [Decidable p] (h:¬p):decide p=false:=decide_eq_false h
theorem zdt {p:Prop} [Decidable p] (h:p):decide p=true:=decide_eq_true h
theorem zla {α:Type} {as bs:List α}:(as++bs).length=as.length+bs.length:=List.length_append
theorem zfs {a b c:Fr} (h:a.sub b) (k:b.sub c):a.sub c:=Fr.sub_trans h k
theorem zlc {α:Type} {a:α} {as:List α}:(a::as).length=as.length+1:=List.length_cons
theorem zlt {α:Type} {i:Nat} {as:List α}:(as.take i).length=min i as.length:=List.length_take
theorem zln {α:Type}:([]:List α).length=0:=List.length_nil
theorem zfc {α:Type} {l:List α} {L:List (List α)}:(l::L).flatten=l++L.flatten:=List.flatten_cons
theorem zaa {α:Type} (as bs cs:List α):as++bs++cs=as++(bs++cs):=List.append_assoc as bs cs
theorem zgl {α:Type} {as bs:List α} {i:Nat} (h:i<as.length) {h' :i<(as++bs).length}:(as++bs)[i]=as[i]:=List.getElem_append_left h
theorem ztg {α:Type} {l:List α} {i:Nat} (h:i<l.length):l.take (i+1)=l.take i++[l[i]]:=List.take_succ_eq_append_getElem h
theorem zB {p:Prop} (h:p:=by repeat (first|exact zh|apply zt)):p:=h
theorem zC {p:Prop} (h:p:=by omega):p:=h
theorem zD {p:Prop} (h:p:=by kernel_rfl):p:=h
theorem zE {p:Prop} (h:p:=by assumption):p:=h
theorem zF {p:Prop} (h:p:=by decide):p:=h
theorem zG {p:Prop} (h:p:=by rfl):p:=h
theorem zH {p:Prop} (h:p:=by first|(simp;done)|(simp [Value.cells];done)):p:=h
theorem zI {p:Prop} (h:p:=by first|omega|(simp;done)|(simp;omega)|decide):p:=h
theorem zJ {p:Prop} (h:p:=by repeat (first|exact zsn|(apply zsc;focus (repeat (first|exact zh|apply zt))))):p:=h
theorem zK {p:Prop} (h:p:=by simp;omega):p:=h
theorem zL {p:Prop} (h:p:=by simp):p:=h
theorem zM {p:Prop} (h:p:=by first|assumption|exact Arr.mono hg (by assumption)|exact Arr.left (by assumption)|exact Arr.left (Arr.mono hg (by assumption))):p:=h
theorem zN {p:Prop} (h:p:=by first|rfl|assumption):p:=h
theorem zO {p:Prop} (h:p:=by exact decide_eq_false (by omega)):p:=h
theorem zP {p:Prop} (h:p:=by exact decide_eq_true (by omega)):p:=h
theorem zQ {p:Prop} (h:p:=by repeat (first|exact zpa|exact zpn|(apply zpc;focus (repeat (first|exact zh|apply zt)))|apply zps)):p:=h
theorem zR {p:Prop} (h:p:=by first|omega|(simp;done)|(simp;omega)):p:=h
theorem zS {p:Prop} (h:p:=by exact decide_eq_true (by simp;omega)):p:=h
theorem zT {p:Prop} (h:p:=by first|rfl|omega):p:=h
theorem zU {p:Prop} (h:p:=by simp [Value.cells]):p:=h
theorem zV {p:Prop} (h:p:=by exact decide_eq_false (by simp;omega)):p:=h
theorem zW {p:Prop} (h:p:=by first|(simp;done)|(simp;omega)):p:=h
end Go.Sp
end
